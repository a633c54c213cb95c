import Derived.Test.YtphaelepnjekoaaGreatSxUse
import Derived.Test.YtphaelepnjekoaaGreatZ27m
import Derived.KernelRfl
set_option linter.unusedVariables false
set_option linter.unusedSimpArgs false
set_option maxRecDepth 100000
set_option maxHeartbeats 4000000
namespace Go
open Go.Sx
def Sp.itr {α : Type} (f : α → α) : Nat → α → α
 | 0, x => x
 | n + 1, x => Sp.itr f n (f x)
end Go
namespace Go
open Go.Sx
def Sp.rdS (ls l : List (List C)) (id t z : Int) : Bool := !decide (Sp.c2 (rGet ls z) = id) || (decide (0 ≤ Sp.nix l (Sp.c0 (rGet ls z))) && decide (Sp.c3 (rGet l (Sp.nix l (Sp.c0 (rGet ls z)))) ≤ t))
def Sp.rdA (ls l : List (List C)) (id t : Int) : Bool := Sp.allI (Sp.rdS ls l id t) ls.length
def Sp.isF (t : Int) (x : List C) : Bool := decide (Sp.c0 x ≤ t)
def Sp.fre (bs : List (List C)) (t : Int) : Int := Sp.idx (Sp.isF t) bs 0
def Sp.canB (ls l : List (List C)) (t : Int) (x : List C) : Bool := decide (Sp.nix l (Sp.c0 x) < 0) && Sp.rdA ls l (Sp.c0 x) t
def Sp.nxI (ls os l : List (List C)) (t : Int) : Int := Sp.idx (Sp.canB ls l t) os 0
def Sp.nxt (ls os l : List (List C)) (t : Int) : Int := bif decide (0 ≤ Sp.nxI ls os l t) then Sp.c0 (rGet os (Sp.nxI ls os l t)) else 0
def Sp.latF (t o : Int) (x : List C) : Int := bif decide (t < Sp.c3 x) && (decide (o < 0) || decide (Sp.c3 x < o)) then Sp.c3 x else o
def Sp.lat (l : List (List C)) (t : Int) : Int := l.foldl (Sp.latF t) (-1)
def Sp.latI (l : List (List C)) (t z o : Int) : Prop := 0 ≤ z ∧ z ≤ (l.length : Int) ∧ o = (l.take z.toNat).foldl (Sp.latF t) (-1)
def Sp.cmC (ns ls cs l : List (List C)) (t : Int) : Int := Sp.gV cs (Sp.nix ns (Sp.nxt ls (Sp.ord ns ls) l t))
def Sp.cmS (ns ls cs : List (List C)) (s : List (List C) × List (List C) × Int) : List (List C) × List (List C) × Int :=
  bif decide (s.1.length < ns.length) then
    (bif decide (Sp.nxt ls (Sp.ord ns ls) s.1 s.2.2 = 0) || decide (Sp.fre s.2.1 s.2.2 < 0) then (s.1, s.2.1, Sp.lat s.1 s.2.2)
     else (s.1 ++ [[.i (Sp.nxt ls (Sp.ord ns ls) s.1 s.2.2), .i (Sp.fre s.2.1 s.2.2), .i s.2.2, .i (s.2.2 + Sp.cmC ns ls cs s.1 s.2.2)]], rSet s.2.1 (Sp.fre s.2.1 s.2.2) [.i (s.2.2 + Sp.cmC ns ls cs s.1 s.2.2)], s.2.2))
  else s
def Sp.cpl (ns ls cs : List (List C)) (w : Int) : List (List C) := (Sp.itr (Sp.cmS ns ls cs) ((ns.length + 1) * (ns.length + 1)) ([], List.replicate w.toNat [.i 0], 0)).1
def Sp.unf (l : List (List C)) (t : Int) : Nat := (l.filter (fun x => decide (t < Sp.c3 x))).length
def Sp.cmM (ns l : List (List C)) (t : Int) : Nat := (ns.length - l.length) * (ns.length + 1) + Sp.unf l t
def Sp.rmn (bs : List (List C)) (t : Int) : Int := bs.foldr (fun x a => max 0 (Sp.c0 x - t) + a) 0
def Sp.una (cs ns0 : List (List C)) (l : List (List C)) (ns : List (List C)) : Int := ns.foldr (fun x a => (bif Sp.has l (Sp.c0 x) then 0 else Sp.gV cs (Sp.nix ns0 (Sp.c0 x))) + a) 0
structure Sp.Gok (ns ls cs : List (List C)) (w : Int) (T : Int → Int) (p : Int) (l bs : List (List C)) (t : Int) : Prop where
 t0 : 0 ≤ t
 bl : (bs.length : Int) = w
 ll : l.length ≤ ns.length
 nd : (l.map Sp.c0).Nodup
 hs : ∀ s ∈ l, Sp.has ns (Sp.c0 s) = true
 sl : ∀ s ∈ l, 0 ≤ Sp.c2 s ∧ Sp.c2 s ≤ t ∧ Sp.c3 s = Sp.c2 s + Sp.gV cs (Sp.nix ns (Sp.c0 s)) ∧ 0 ≤ Sp.c1 s ∧ Sp.c1 s < w ∧ Sp.c3 s ≤ Sp.gV bs (Sp.c1 s)
 bu : ∀ k : Int, 0 ≤ k → k < w → Sp.gV bs k ≤ t ∨ ∃ s ∈ l, Sp.c3 s = Sp.gV bs k
 gr : w * t + Sp.rmn bs t + Sp.una cs ns l ns ≤ Sp.sum cs + (w - 1) * p
 p0 : 0 ≤ p
 pC : p ≤ Sp.critR ns ls cs
 pu : ∀ n, Sp.has ns n = true → Sp.has l n = false → p ≤ T n - Sp.gV cs (Sp.nix ns n)
 pr : ∀ s ∈ l, t < Sp.c3 s → p ≤ T (Sp.c0 s) - Sp.gV cs (Sp.nix ns (Sp.c0 s)) + t - Sp.c2 s
def Sp.TT (ns ls cs : List (List C)) (T : Int → Int) : Prop := (∀ n, Sp.has ns n = true → Sp.gV cs (Sp.nix ns n) ≤ T n ∧ T n ≤ Sp.critR ns ls cs) ∧ ∀ l ∈ ls, Sp.has ns (Sp.c2 l) = true → T (Sp.c0 l) + Sp.gV cs (Sp.nix ns (Sp.c2 l)) ≤ T (Sp.c2 l)
def Sp.gok (ns ls cs : List (List C)) (w : Int) (s : List (List C) × List (List C) × Int) : Prop := ∃ T p, Sp.TT ns ls cs T ∧ Sp.Gok ns ls cs w T p s.1 s.2.1 s.2.2
def Sp.cmI (ns ls cs : List (List C)) (w : Int) (l bs : List (List C)) (t : Int) : Prop := Sp.gok ns ls cs w (l, bs, t) ∧ ∃ m : Nat, Sp.cmM ns l t ≤ m ∧ (Sp.itr (Sp.cmS ns ls cs) m (l, bs, t)).1 = Sp.cpl ns ls cs w
def Sp.upI (p : Int → Bool) (n : Nat) (z : Int) : Prop := 0 ≤ z ∧ z ≤ (n : Int) ∧ ∀ j : Int, 0 ≤ j → j < z → p j = true
def Sp.spn (l : List (List C)) : Int := l.foldl (fun a x => max a (Sp.c3 x)) 0
def Sp.spI (l : List (List C)) (z a : Int) : Prop := 0 ≤ z ∧ z ≤ (l.length : Int) ∧ a = Sp.spn (l.take z.toNat)
def Sp.cplE (ns ls cs : List (List C)) (w : Int) : List (List C) := bif Sp.prb ns ls cs w then Sp.cpl ns ls cs w else []
def Sp.cplK (ns ls cs : List (List C)) (w : Int) : Int := bif Sp.prb ns ls cs w then 0 else 1
end Go
namespace Go
open Go.Sx
section
variable {ns ls cs l bs : List (List C)} {w t p : Int} {T : Int → Int}
theorem Sp.gV_at {b : List (List C)} {k : Nat} (h : k < b.length) : Sp.gV b (k : Int) = Sp.c0 b[k] := by
 unfold Sp.gV rGet
 rw [List.getD_eq_getElem?_getD, Int.toNat_natCast, List.getElem?_eq_getElem h]; rfl
theorem Sp.has_add {n : Int} {s : List C} : Sp.has (l ++ [s]) n = (Sp.has l n || decide (Sp.c0 s = n)) := by
 rw [Bool.eq_iff_iff, Bool.or_eq_true, decide_eq_true_eq, Sp.has_iff, Sp.has_iff]
 simp only [List.mem_append, List.mem_singleton, or_and_right, exists_or, exists_eq_left]
theorem Sp.rmn_cons {x : List C} {bs : List (List C)} : Sp.rmn (x :: bs) t = max 0 (Sp.c0 x - t) + Sp.rmn bs t := rfl
theorem Sp.rmn_nn {t : Int} : ∀ {bs : List (List C)}, 0 ≤ Sp.rmn bs t
 | [] => by simp [Sp.rmn]
 | x :: r => by
  rw [Sp.rmn_cons]
  have : 0 ≤ Sp.rmn r t := Sp.rmn_nn
  omega
theorem Sp.rmn_ge {t : Int} : ∀ {bs : List (List C)} {x : List C}, x ∈ bs → Sp.c0 x - t ≤ Sp.rmn bs t
 | y :: r, x, h => by
  rw [Sp.rmn_cons]
  have := Sp.rmn_nn (t := t) (bs := r)
  rcases List.mem_cons.1 h with h | h
  · subst h; omega
  · have : Sp.c0 x - t ≤ Sp.rmn r t := Sp.rmn_ge h
    omega
theorem Sp.rmn_set : ∀ {bs : List (List C)} {k : Nat} {v : Int}, k < bs.length → Sp.gV bs (k : Int) ≤ t → t ≤ v → Sp.rmn (bs.set k [.i v]) t = Sp.rmn bs t + (v - t)
 | x :: r, 0, v, _, h1, h2 => by
  rw [List.set_cons_zero, Sp.rmn_cons, Sp.rmn_cons]
  have e : Sp.gV (x :: r) ((0 : Nat) : Int) = Sp.c0 x := rfl
  have e2 : Sp.c0 [C.i v] = v := rfl
  rw [e] at h1; rw [e2]; omega
 | x :: r, k + 1, v, h0, h1, h2 => by
  rw [List.length_cons] at h0
  have e : Sp.gV (x :: r) ((k + 1 : Nat) : Int) = Sp.gV r (k : Int) := by
   rw [Sp.gV_at (by rw [List.length_cons]; omega), Sp.gV_at (by omega)]; rfl
  rw [e] at h1
  rw [List.set_cons_succ, Sp.rmn_cons, Sp.rmn_cons, Sp.rmn_set (by omega) h1 h2]; omega
theorem Sp.rmn_on {d : Int} (hd : 0 ≤ d) : ∀ {bs : List (List C)}, (∀ x ∈ bs, Sp.c0 x ≤ t ∨ t + d ≤ Sp.c0 x) → Sp.rmn bs (t + d) ≤ Sp.rmn bs t ∧ ((∃ x ∈ bs, t < Sp.c0 x) → Sp.rmn bs (t + d) + d ≤ Sp.rmn bs t) ∧ ((∀ x ∈ bs, t < Sp.c0 x) → Sp.rmn bs (t + d) + bs.length * d ≤ Sp.rmn bs t)
 | [], _ => ⟨by simp [Sp.rmn], fun ⟨x, hx, _⟩ => (by cases hx), fun _ => (by simp [Sp.rmn])⟩
 | y :: r, h => by
  obtain ⟨i1, i2, i3⟩ := Sp.rmn_on hd (bs := r) fun x hx => h x (List.mem_cons_of_mem _ hx)
  have hy := h y List.mem_cons_self
  rw [Sp.rmn_cons, Sp.rmn_cons, List.length_cons]
  refine ⟨by omega, ?_, ?_⟩
  · rintro ⟨x, hx, hl⟩
    rcases List.mem_cons.1 hx with hx | hx
    · subst hx; omega
    · have := i2 ⟨x, hx, hl⟩; omega
  · intro ha
    have h1 := ha y List.mem_cons_self
    have h2 := i3 fun x hx => ha x (List.mem_cons_of_mem _ hx)
    rw [show ((r.length + 1 : Nat) : Int) * d = (r.length : Int) * d + d by rw [Int.natCast_add, Int.add_mul]; simp]
    omega
theorem Sp.una_nn {ns0 l : List (List C)} (hc : ∀ i, 0 ≤ Sp.gV cs i) : ∀ {ns : List (List C)}, 0 ≤ Sp.una cs ns0 l ns
 | [] => by simp [Sp.una]
 | x :: r => by
  have : 0 ≤ Sp.una cs ns0 l r := Sp.una_nn hc
  have h := hc (Sp.nix ns0 (Sp.c0 x))
  unfold Sp.una at this ⊢
  rw [List.foldr_cons]
  cases Sp.has l (Sp.c0 x) <;> simp only [cond_true, cond_false] <;> omega
theorem Sp.una_le {ns0 l : List (List C)} {s : List C} (hc : ∀ i, 0 ≤ Sp.gV cs i) : ∀ {ns : List (List C)}, Sp.una cs ns0 (l ++ [s]) ns ≤ Sp.una cs ns0 l ns
 | [] => by simp [Sp.una]
 | x :: r => by
  have : Sp.una cs ns0 (l ++ [s]) r ≤ Sp.una cs ns0 l r := Sp.una_le hc
  have h := hc (Sp.nix ns0 (Sp.c0 x))
  unfold Sp.una at this ⊢
  rw [List.foldr_cons, List.foldr_cons, Sp.has_add]
  cases Sp.has l (Sp.c0 x) <;> cases decide (Sp.c0 s = Sp.c0 x) <;> simp only [cond_true, cond_false, Bool.or_true, Bool.or_false, Bool.true_or, Bool.false_or] <;> omega
theorem Sp.una_add {ns0 : List (List C)} {s : List C} (hc : ∀ i, 0 ≤ Sp.gV cs i) (hn : Sp.has l (Sp.c0 s) = false) : ∀ {ns : List (List C)}, Sp.has ns (Sp.c0 s) = true → Sp.una cs ns0 (l ++ [s]) ns + Sp.gV cs (Sp.nix ns0 (Sp.c0 s)) ≤ Sp.una cs ns0 l ns
 | [], h => by rw [Sp.has_nil] at h; cases h
 | x :: r, h => by
  rw [Sp.has_cons, Bool.or_eq_true, decide_eq_true_eq] at h
  have hle := Sp.una_le (cs := cs) (ns0 := ns0) (l := l) (s := s) hc (ns := r)
  have h0 := hc (Sp.nix ns0 (Sp.c0 x))
  by_cases hx : Sp.c0 x = Sp.c0 s
  · unfold Sp.una at hle ⊢
    rw [List.foldr_cons, List.foldr_cons, Sp.has_add, hx, hn, decide_eq_true rfl]
    simp only [cond_true, cond_false, Bool.or_true]; omega
  · have ih : Sp.una cs ns0 (l ++ [s]) r + Sp.gV cs (Sp.nix ns0 (Sp.c0 s)) ≤ Sp.una cs ns0 l r := Sp.una_add hc hn (h.resolve_left hx)
    unfold Sp.una at ih ⊢
    rw [List.foldr_cons, List.foldr_cons, Sp.has_add, decide_eq_false (fun e => hx e.symm), Bool.or_false]
    omega
theorem Sp.sum_cons {x : List C} {r : List (List C)} : Sp.sum (x :: r) = Sp.c0 x + Sp.sum r := by
 unfold Sp.sum
 rw [List.foldl_cons, Sp.sum_acc]
 unfold Sp.sum; omega
theorem Sp.una_nil {ns0 : List (List C)} : ∀ {ns cs' : List (List C)}, ns.length = cs'.length → (∀ k : Nat, ∀ h : k < ns.length, Sp.gV cs (Sp.nix ns0 (Sp.c0 ns[k])) = Sp.gV cs' (k : Int)) → Sp.una cs ns0 [] ns = Sp.sum cs'
 | [], [], _, _ => rfl
 | x :: r, y :: q, hl, h => by
  have h0 := h 0 (by simp)
  have ih := Sp.una_nil (ns := r) (cs' := q) (by simpa using hl) fun k hk => by
   have := h (k + 1) (by rw [List.length_cons]; omega)
   rw [List.getElem_cons_succ] at this
   rw [this, Sp.gV_at (by rw [List.length_cons]; simp only [List.length_cons] at hl; omega), Sp.gV_at (by simp only [List.length_cons] at hl; omega)]; rfl
  rw [Sp.sum_cons, ← ih]
  unfold Sp.una
  rw [List.foldr_cons, Sp.has_nil, cond_false]
  have e : Sp.gV cs (Sp.nix ns0 (Sp.c0 x)) = Sp.c0 y := h0
  rw [e]
theorem Sp.idx_bef {p : List C → Bool} : ∀ (xs : List (List C)) (i k : Int), 0 ≤ i → i ≤ k → k < Sp.idx p xs i → p (rGet xs (k - i)) = false
 | [], i, k, h0, h1, h2 => by simp only [Sp.idx] at h2; omega
 | x :: r, i, k, h0, h1, h2 => by
  rw [Sp.idx] at h2
  cases hp : p x
  · rw [hp, cond_false] at h2
    by_cases e : k = i
    · rw [e, Int.sub_self]; exact hp
    · have := Sp.idx_bef r (i + 1) k (by omega) (by omega) h2
      unfold rGet at this ⊢
      rw [show (k - i).toNat = (k - (i + 1)).toNat + 1 by omega]
      simpa using this
  · rw [hp, cond_true] at h2; omega
theorem Sp.lat_fold (ht : 0 ≤ t) : ∀ (l : List (List C)) (o : Int), (o < 0 ∨ t < o) →
    (l.foldl (Sp.latF t) o = o ∧ (∀ s ∈ l, t < Sp.c3 s → 0 ≤ o ∧ o ≤ Sp.c3 s) ∨ t < l.foldl (Sp.latF t) o ∧ (∃ s ∈ l, Sp.c3 s = l.foldl (Sp.latF t) o) ∧ (∀ s ∈ l, t < Sp.c3 s → l.foldl (Sp.latF t) o ≤ Sp.c3 s) ∧ (0 ≤ o → l.foldl (Sp.latF t) o ≤ o))
  | [], o, _ => .inl ⟨rfl, fun s hs => by cases hs⟩
  | x :: r, o, ho => by
    rw [List.foldl_cons]
    by_cases hc : t < Sp.c3 x ∧ (o < 0 ∨ Sp.c3 x < o)
    · have e : Sp.latF t o x = Sp.c3 x := by
        unfold Sp.latF
        rw [decide_eq_true hc.1, ← Bool.decide_or, decide_eq_true hc.2]; rfl
      rw [e]
      rcases Sp.lat_fold ht r (Sp.c3 x) (.inr hc.1) with ⟨h1, h2⟩ | ⟨h1, ⟨s, hs, h2⟩, h3, h4⟩
      · refine .inr ⟨by rw [h1]; exact hc.1, ⟨x, List.mem_cons_self, h1.symm⟩, fun s hs hl => ?_, fun _ => by rw [h1]; omega⟩
        rw [h1]
        rcases List.mem_cons.1 hs with hs | hs
        · subst hs; exact Int.le_refl _
        · exact (h2 s hs hl).2
      · have h5 := h4 (by omega)
        refine .inr ⟨h1, ⟨s, List.mem_cons_of_mem _ hs, h2⟩, fun q hq hl => ?_, fun _ => by omega⟩
        rcases List.mem_cons.1 hq with hq | hq
        · subst hq; exact h5
        · exact h3 q hq hl
    · have e : Sp.latF t o x = o := by
        unfold Sp.latF
        rw [← Bool.decide_or, ← Bool.decide_and, decide_eq_false hc]; rfl
      rw [e]
      rcases Sp.lat_fold ht r o ho with ⟨h1, h2⟩ | ⟨h1, ⟨s, hs, h2⟩, h3, h4⟩
      · refine .inl ⟨h1, fun s hs hl => ?_⟩
        rcases List.mem_cons.1 hs with hs | hs
        · subst hs; omega
        · exact h2 s hs hl
      · refine .inr ⟨h1, ⟨s, List.mem_cons_of_mem _ hs, h2⟩, fun q hq hl => ?_, h4⟩
        rcases List.mem_cons.1 hq with hq | hq
        · subst hq
          have h6 : 0 ≤ o := by omega
          have h7 := h4 h6; omega
        · exact h3 q hq hl
theorem Sp.lat_some (ht : 0 ≤ t) (h : ∃ s ∈ l, t < Sp.c3 s) : t < Sp.lat l t ∧ (∃ s ∈ l, Sp.c3 s = Sp.lat l t) ∧ ∀ s ∈ l, t < Sp.c3 s → Sp.lat l t ≤ Sp.c3 s := by
 obtain ⟨s, hs, hl⟩ := h
 unfold Sp.lat
 rcases Sp.lat_fold ht l (-1) (.inl (by omega)) with ⟨_, h2⟩ | ⟨h1, h2, h3, _⟩
 · have := h2 s hs hl; omega
 · exact ⟨h1, h2, h3⟩
theorem Sp.nd_le : ∀ {xs ys : List Int}, xs.Nodup → (∀ x ∈ xs, x ∈ ys) → xs.length ≤ ys.length
 | [], _, _, _ => by simp
 | x :: r, ys, hn, h => by
  rw [List.nodup_cons] at hn
  have hx := h x List.mem_cons_self
  have := Sp.nd_le (xs := r) (ys := ys.erase x) hn.2 fun y hy => (List.mem_erase_of_ne (fun e : y = x => hn.1 (e ▸ hy))).2 (h y (List.mem_cons_of_mem _ hy))
  rw [List.length_erase_of_mem hx] at this
  have h0 := List.length_pos_of_mem hx
  rw [List.length_cons]; omega
theorem Sp.ordc_get {j : Nat} (h : j < (Sp.ord ns ls).length) : (Sp.ord ns ls).getD j [] = (Sp.ord ns ls)[j] := by
 rw [List.getD_eq_getElem?_getD, List.getElem?_eq_getElem h]; rfl
theorem Sp.ordc_nd : ((Sp.ord ns ls).map Sp.c0).Nodup := by
 unfold List.Nodup
 rw [List.pairwise_iff_getElem]
 intro i j hi hj hij
 rw [List.length_map] at hj
 rw [List.getElem_map, List.getElem_map]
 have := Sp.oid_ne (ns := ns) (ls := ls) hij hj
 unfold Sp.oid at this
 rw [Sp.ordc_get (by omega), Sp.ordc_get hj] at this
 exact this
theorem Sp.oid_all (hv : Sp.vld ns ls = true) {n : Int} (hn : Sp.has ns n = true) : ∃ j : Nat, j < (Sp.ord ns ls).length ∧ Sp.oid ns ls j = n := by
 have hm : n ∈ (Sp.ord ns ls).map Sp.c0 := by
  refine Classical.byContradiction fun hc => ?_
  have h1 : (n :: (Sp.ord ns ls).map Sp.c0).Nodup := List.nodup_cons.2 ⟨hc, Sp.ordc_nd⟩
  have h2 := Sp.nd_le (ys := ns.map Sp.c0) h1 fun y hy => by
   rcases List.mem_cons.1 hy with hy | hy
   · subst hy
     obtain ⟨x, hx, he⟩ := Sp.has_iff.1 hn
     exact List.mem_map.2 ⟨x, hx, he⟩
   · obtain ⟨x, hx, he⟩ := List.mem_map.1 hy
     obtain ⟨z, hz, hz'⟩ := Sp.has_iff.1 (Sp.ord_has x hx)
     exact List.mem_map.2 ⟨z, hz, by rw [hz', he]⟩
  rw [List.length_cons, List.length_map, List.length_map, Sp.vld_ordlen hv] at h2
  omega
 obtain ⟨x, hx, he⟩ := List.mem_map.1 hm
 obtain ⟨j, hj, hx⟩ := List.mem_iff_getElem.1 hx
 exact ⟨j, hj, by unfold Sp.oid; rw [Sp.ordc_get hj, hx, he]⟩
theorem Sp.rd_no {id : Int} (h : Sp.rdA ls l id t = false) : ∃ q ∈ ls, Sp.c2 q = id ∧ (Sp.has l (Sp.c0 q) = false ∨ ∃ s ∈ l, Sp.c0 s = Sp.c0 q ∧ t < Sp.c3 s) := by
 refine Classical.byContradiction fun hc => ?_
 have : Sp.rdA ls l id t = true := Sp.allI_iff.2 fun z z0 z1 => by
  unfold Sp.rdS
  by_cases he : Sp.c2 (rGet ls z) = id
  · rw [decide_eq_true he, Bool.not_true, Bool.false_or]
    have hz : rGet ls z ∈ ls := Sp.rGet_mem z0 z1
    cases hh : Sp.has l (Sp.c0 (rGet ls z)) with
    | false => exact absurd ⟨_, hz, he, .inl hh⟩ hc
    | true =>
     obtain ⟨n0, n1, n2⟩ := Sp.nix_has hh
     rw [decide_eq_true n0, Bool.true_and]
     refine decide_eq_true (Int.not_lt.1 fun hl => hc ⟨_, hz, he, .inr ⟨_, Sp.rGet_mem n0 n1, n2, hl⟩⟩)
  · rw [decide_eq_false he]; rfl
 rw [this] at h; cases h
theorem Sp.nx_no (hv : Sp.vld ns ls = true) (h : Sp.nxI ls (Sp.ord ns ls) l t < 0) : ∀ n, Sp.has ns n = true → Sp.has l n = false → ∃ q ∈ ls, Sp.c2 q = n ∧ (Sp.has l (Sp.c0 q) = false ∨ ∃ s ∈ l, Sp.c0 s = Sp.c0 q ∧ t < Sp.c3 s) := fun n hn hl => by
 have h1 := (Sp.idx_no (p := Sp.canB ls l t) (Sp.ord ns ls) 0 (by omega)).1 h
 obtain ⟨j, hj, he⟩ := Sp.oid_all hv hn
 have h2 := h1 _ (Sp.oid_mem hj)
 refine Sp.rd_no ?_
 unfold Sp.canB at h2
 unfold Sp.oid at he
 rw [he] at h2
 unfold Sp.has at hl
 rw [decide_eq_true (Int.not_le.1 (of_decide_eq_false hl)), Bool.true_and] at h2
 exact h2
theorem Sp.un_first (hv : Sp.vld ns ls = true) (hl : l.length < ns.length) : ∃ j : Nat, j < (Sp.ord ns ls).length ∧ Sp.has l (Sp.oid ns ls j) = false ∧ ∀ i : Nat, i < j → Sp.has l (Sp.oid ns ls i) = true := by
 let q : List C → Bool := fun x => !Sp.has l (Sp.c0 x)
 have hb := Sp.idx_bd (p := q) (Sp.ord ns ls) 0
 by_cases h0 : 0 ≤ Sp.idx q (Sp.ord ns ls) 0
 · have hr := (Sp.idx_row (p := q) (Sp.ord ns ls) 0 (by omega)).resolve_left (by omega)
   rw [Int.sub_zero] at hr
   refine ⟨(Sp.idx q (Sp.ord ns ls) 0).toNat, by omega, ?_, fun i hi => ?_⟩
   · have hr' : Sp.has l (Sp.c0 (rGet (Sp.ord ns ls) (Sp.idx q (Sp.ord ns ls) 0))) = false := by simpa [q] using hr
     exact hr'
   · have := Sp.idx_bef (p := q) (Sp.ord ns ls) 0 (i : Int) (by omega) (by omega) (by omega)
     rw [Int.sub_zero] at this
     have h2 : Sp.has l (Sp.c0 (rGet (Sp.ord ns ls) (i : Int))) = true := by simpa [q] using this
     exact h2
 · have h1 := (Sp.idx_no (p := q) (Sp.ord ns ls) 0 (by omega)).1 (by omega)
   have h2 := Sp.nd_le (ys := l.map Sp.c0) (Sp.ordc_nd (ns := ns) (ls := ls)) fun y hy => by
    obtain ⟨x, hx, he⟩ := List.mem_map.1 hy
    have h3 : Sp.has l (Sp.c0 x) = true := by simpa [q] using h1 x hx
    obtain ⟨z, hz, hz'⟩ := Sp.has_iff.1 h3
    exact List.mem_map.2 ⟨z, hz, by rw [hz', he]⟩
   rw [List.length_map, List.length_map, Sp.vld_ordlen hv] at h2
   omega
theorem Sp.runs_no (hv : Sp.vld ns ls = true) (hl : l.length < ns.length) (h : Sp.nxI ls (Sp.ord ns ls) l t < 0) : ∃ s ∈ l, t < Sp.c3 s := by
 obtain ⟨j, hj, h1, h2⟩ := Sp.un_first hv hl
 obtain ⟨q, hq, he, h3⟩ := Sp.nx_no hv h _ (Sp.oid_has hj) h1
 obtain ⟨i, hi, h4⟩ := Sp.oid_dep hj hq he
 rcases h3 with h3 | ⟨s, hs, _, h5⟩
 · rw [h4, h2 i hi] at h3; cases h3
 · exact ⟨s, hs, h5⟩
theorem Sp.Gok.runs_all (g : Sp.Gok ns ls cs w T p l bs t) (hw : 1 ≤ w) (h : Sp.fre bs t < 0) : (∀ k : Int, 0 ≤ k → k < w → t < Sp.gV bs k) ∧ ∃ s ∈ l, t < Sp.c3 s := by
 have h1 := (Sp.idx_no (p := Sp.isF t) bs 0 (by omega)).1 h
 have h2 : ∀ k : Int, 0 ≤ k → k < w → t < Sp.gV bs k := fun k k0 k1 => by
  have hb := g.bl
  have := h1 _ (Sp.rGet_mem (xs := bs) (z := k) k0 (by omega))
  unfold Sp.isF at this
  rw [decide_eq_false_iff_not] at this
  unfold Sp.gV; omega
 refine ⟨h2, ?_⟩
 have h3 := h2 0 (by omega) (by omega)
 rcases g.bu 0 (by omega) (by omega) with h4 | ⟨s, hs, h4⟩
 · omega
 · exact ⟨s, hs, by omega⟩
theorem Sp.Gok.add (g : Sp.Gok ns ls cs w T p l bs t) (hc : ∀ i, 0 ≤ Sp.gV cs i) (hl : l.length < ns.length) {id wk c : Int} (hid : Sp.has ns id = true) (hno : Sp.has l id = false) (w0 : 0 ≤ wk) (w1 : wk < w) (hf : Sp.gV bs wk ≤ t) (he : c = Sp.gV cs (Sp.nix ns id)) :
 Sp.Gok ns ls cs w T p (l ++ [[.i id, .i wk, .i t, .i (t + c)]]) (rSet bs wk [.i (t + c)]) t := by
 have c0 : 0 ≤ c := by rw [he]; exact hc _
 have t0 := g.t0
 have hbl := g.bl
 have s0 : Sp.c0 [C.i id, C.i wk, C.i t, C.i (t + c)] = id := rfl
 have s1 : Sp.c1 [C.i id, C.i wk, C.i t, C.i (t + c)] = wk := rfl
 have s2 : Sp.c2 [C.i id, C.i wk, C.i t, C.i (t + c)] = t := rfl
 have s3 : Sp.c3 [C.i id, C.i wk, C.i t, C.i (t + c)] = t + c := rfl
 have gv : ∀ k : Int, 0 ≤ k → Sp.gV (rSet bs wk [.i (t + c)]) k = if wk = k then t + c else Sp.gV bs k := fun k k0 => Sp.gV_set w0 (by omega) k0
 refine ⟨t0, by unfold rSet; rw [List.length_set]; exact hbl, by rw [List.length_append, List.length_singleton]; omega, ?_, fun s hs => ?_, fun s hs => ?_, fun k k0 k1 => ?_, ?_, g.p0, g.pC, fun n hn hf => ?_, fun s hs hr => ?_⟩
 · rw [List.map_append, List.map_cons, List.map_nil, List.nodup_append]
   refine ⟨g.nd, by simp, fun a ha b hb e => ?_⟩
   rw [List.mem_singleton] at hb
   obtain ⟨x, hx, hxa⟩ := List.mem_map.1 ha
   have : Sp.has l id = true := Sp.has_iff.2 ⟨x, hx, by rw [hxa, e, hb, s0]⟩
   rw [this] at hno; cases hno
 · rcases List.mem_append.1 hs with hs | hs
   · exact g.hs s hs
   · rw [List.mem_singleton.1 hs, s0]; exact hid
 · rcases List.mem_append.1 hs with hs | hs
   · obtain ⟨a1, a2, a3, a4, a5, a6⟩ := g.sl s hs
     refine ⟨a1, a2, a3, a4, a5, ?_⟩
     rw [gv _ a4]
     split
     · rename_i e; rw [e] at hf; omega
     · exact a6
   · rw [List.mem_singleton.1 hs, s0, s1, s2, s3, gv _ w0, if_pos rfl]
     exact ⟨t0, Int.le_refl _, by rw [he], w0, w1, Int.le_refl _⟩
 · rw [gv k k0]
   split
   · exact .inr ⟨_, List.mem_append_right _ (List.mem_singleton.2 rfl), s3⟩
   · rcases g.bu k k0 k1 with h | ⟨s, hs, h⟩
     · exact .inl h
     · exact .inr ⟨s, List.mem_append_left _ hs, h⟩
 · have h1 : Sp.rmn (rSet bs wk [.i (t + c)]) t = Sp.rmn bs t + (t + c - t) := Sp.rmn_set (by omega) (by rw [show ((wk.toNat : Nat) : Int) = wk by omega]; exact hf) (by omega)
   have h2 := Sp.una_add (cs := cs) (ns0 := ns) (l := l) (s := [C.i id, C.i wk, C.i t, C.i (t + c)]) hc (by rw [s0]; exact hno) (ns := ns) (by rw [s0]; exact hid)
   rw [s0, ← he] at h2
   have := g.gr
   omega
 · rw [Sp.has_add, Bool.or_eq_false_iff] at hf
   exact g.pu n hn hf.1
 · rcases List.mem_append.1 hs with hs | hs
   · exact g.pr s hs hr
   · rw [List.mem_singleton.1 hs, s0, s2]
     have := g.pu id hid hno
     omega
theorem Sp.Gok.on (g : Sp.Gok ns ls cs w T p l bs t) (hv : Sp.vld ns ls = true) (hT : Sp.TT ns ls cs T) (hw : 1 ≤ w) (hc : ∀ i, 0 ≤ Sp.gV cs i) (hr : ∃ s ∈ l, t < Sp.c3 s)
    (h : (∀ k : Int, 0 ≤ k → k < w → t < Sp.gV bs k) ∨ ∀ n, Sp.has ns n = true → Sp.has l n = false → ∃ q ∈ ls, Sp.c2 q = n ∧ (Sp.has l (Sp.c0 q) = false ∨ ∃ s ∈ l, Sp.c0 s = Sp.c0 q ∧ t < Sp.c3 s)) :
    ∃ p', Sp.Gok ns ls cs w T p' l bs (Sp.lat l t) := by
  obtain ⟨L1, ⟨s1, hs1, L2⟩, L3⟩ := Sp.lat_some g.t0 hr
  have t0 := g.t0
  have hbl := g.bl
  have p0 := g.p0
  generalize hd : Sp.lat l t - t = d
  have hd' : Sp.lat l t = t + d := by omega
  rw [hd'] at L1 L2 L3 ⊢
  have mem : ∀ x ∈ bs, ∃ k : Int, 0 ≤ k ∧ k < w ∧ Sp.gV bs k = Sp.c0 x := fun x hx => by
    obtain ⟨k, hk, rfl⟩ := List.mem_iff_getElem.1 hx
    exact ⟨(k : Int), by omega, by omega, Sp.gV_at hk⟩
  have hb : ∀ x ∈ bs, Sp.c0 x ≤ t ∨ t + d ≤ Sp.c0 x := fun x hx => by
    obtain ⟨k, k0, k1, hk⟩ := mem x hx
    rw [← hk]
    rcases g.bu k k0 k1 with h1 | ⟨s, hs, h1⟩
    · exact .inl h1
    · by_cases h2 : t < Sp.c3 s
      · have := L3 s hs h2; omega
      · omega
  obtain ⟨r1, r2, r3⟩ := Sp.rmn_on (t := t) (d := d) (by omega) hb
  have bu' : ∀ k : Int, 0 ≤ k → k < w → Sp.gV bs k ≤ t + d ∨ ∃ s ∈ l, Sp.c3 s = Sp.gV bs k := fun k k0 k1 => (g.bu k k0 k1).imp (fun h => by omega) id
  have sl' : ∀ s ∈ l, 0 ≤ Sp.c2 s ∧ Sp.c2 s ≤ t + d ∧ Sp.c3 s = Sp.c2 s + Sp.gV cs (Sp.nix ns (Sp.c0 s)) ∧ 0 ≤ Sp.c1 s ∧ Sp.c1 s < w ∧ Sp.c3 s ≤ Sp.gV bs (Sp.c1 s) := fun s hs => by
    obtain ⟨a1, a2, a3, a4, a5, a6⟩ := g.sl s hs
    exact ⟨a1, by omega, a3, a4, a5, a6⟩
  obtain ⟨a1, a2, a3, a4, a5, a6⟩ := g.sl s1 hs1
  have gr := g.gr
  have gin : ∀ k : Int, 0 ≤ k → k < w → ∃ x ∈ bs, Sp.c0 x = Sp.gV bs k := fun k k0 k1 => ⟨rGet bs k, Sp.rGet_mem k0 (by omega), rfl⟩
  rcases h with h | h
  · refine ⟨p, by omega, hbl, g.ll, g.nd, g.hs, sl', bu', ?_, p0, g.pC, g.pu, fun s hs hr => ?_⟩
    · have := r3 fun x hx => by
        obtain ⟨k, k0, k1, hk⟩ := mem x hx
        rw [← hk]; exact h k k0 k1
      rw [hbl] at this
      rw [Int.mul_add]; omega
    · have := g.pr s hs (by omega); omega
  · have key : ∀ j : Nat, j < (Sp.ord ns ls).length → Sp.has l (Sp.oid ns ls j) = false → p + d ≤ T (Sp.oid ns ls j) - Sp.gV cs (Sp.nix ns (Sp.oid ns ls j)) := by
      intro j
      induction j using Nat.strongRecOn with
      | ind j ih =>
        intro hj hf
        obtain ⟨q, hq, he, h3⟩ := h _ (Sp.oid_has hj) hf
        have hT2 := hT.2 q hq (by rw [he]; exact Sp.oid_has hj)
        rw [he] at hT2
        rcases h3 with h3 | ⟨s, hs, h4, h5⟩
        · obtain ⟨i, hi, h4⟩ := Sp.oid_dep hj hq he
          rw [h4] at h3 hT2
          have := ih i hi (by omega) h3
          have := hc (Sp.nix ns (Sp.oid ns ls i))
          omega
        · have := g.pr s hs h5
          have b3 := L3 s hs h5
          obtain ⟨_, _, b4, _⟩ := g.sl s hs
          rw [h4] at this b4
          omega
    refine ⟨p + d, by omega, hbl, g.ll, g.nd, g.hs, sl', bu', ?_, by omega, ?_, fun n hn hf => ?_, fun s hs hr => ?_⟩
    · have := r2 (by
        obtain ⟨x, hx, e⟩ := gin _ a4 a5
        exact ⟨x, hx, by omega⟩)
      rw [Int.mul_add, Int.mul_add, Int.sub_mul w 1 d]
      omega
    · have b1 := g.pr s1 hs1 (by omega)
      have b2 := (hT.1 _ (g.hs s1 hs1)).2
      omega
    · obtain ⟨j, hj, rfl⟩ := Sp.oid_all hv hn
      exact key j hj hf
    · have := g.pr s hs (by omega); omega
end
end Go
namespace Go
open Go.Sx
section
variable {ns ls cs l bs : List (List C)} {w t p : Int} {T : Int → Int}
theorem Sp.nxt_at (h0 : 0 ≤ Sp.nxI ls (Sp.ord ns ls) l t) : Sp.nxt ls (Sp.ord ns ls) l t = Sp.c0 (rGet (Sp.ord ns ls) (Sp.nxI ls (Sp.ord ns ls) l t)) ∧ Sp.has ns (Sp.c0 (rGet (Sp.ord ns ls) (Sp.nxI ls (Sp.ord ns ls) l t))) = true ∧ Sp.canB ls l t (rGet (Sp.ord ns ls) (Sp.nxI ls (Sp.ord ns ls) l t)) = true := by
 have hb : Sp.nxI ls (Sp.ord ns ls) l t = -1 ∨ 0 ≤ Sp.nxI ls (Sp.ord ns ls) l t ∧ Sp.nxI ls (Sp.ord ns ls) l t < 0 + ((Sp.ord ns ls).length : Int) := Sp.idx_bd (p := Sp.canB ls l t) (Sp.ord ns ls) 0
 have hr : Sp.nxI ls (Sp.ord ns ls) l t = -1 ∨ Sp.canB ls l t (rGet (Sp.ord ns ls) (Sp.nxI ls (Sp.ord ns ls) l t - 0)) = true := Sp.idx_row (p := Sp.canB ls l t) (Sp.ord ns ls) 0 (by omega)
 rw [Int.sub_zero] at hr
 refine ⟨?_, Sp.ord_has _ (Sp.rGet_mem h0 (by omega)), hr.resolve_left (by omega)⟩
 unfold Sp.nxt
 rw [decide_eq_true h0, cond_true]
theorem Sp.nxt_ok (h : ¬ Sp.nxt ls (Sp.ord ns ls) l t = 0) : Sp.has ns (Sp.nxt ls (Sp.ord ns ls) l t) = true ∧ Sp.has l (Sp.nxt ls (Sp.ord ns ls) l t) = false := by
 by_cases h0 : 0 ≤ Sp.nxI ls (Sp.ord ns ls) l t
 · obtain ⟨e, h1, h2⟩ := Sp.nxt_at h0
   rw [e]
   unfold Sp.canB at h2
   rw [Bool.and_eq_true, decide_eq_true_eq] at h2
   exact ⟨h1, Sp.has_f (Int.not_le.2 h2.1)⟩
 · unfold Sp.nxt at h
   rw [decide_eq_false h0] at h; exact absurd rfl h
theorem Sp.nxt_0 (hv : Sp.vld ns ls = true) (h : Sp.nxt ls (Sp.ord ns ls) l t = 0) : Sp.nxI ls (Sp.ord ns ls) l t < 0 := by
 refine Int.not_le.1 fun h0 => ?_
 obtain ⟨e, h1, _⟩ := Sp.nxt_at h0
 rw [← e, h] at h1
 obtain ⟨n0, n1, n2⟩ := Sp.nix_has h1
 have := Sp.allI_iff.1 (Sp.vld_nok hv) _ n0 n1
 unfold Sp.nokI Sp.fine at this
 simp only [Bool.and_eq_true, decide_eq_true_eq] at this
 omega
theorem Sp.fre_ok (h : ¬ Sp.fre bs t < 0) : 0 ≤ Sp.fre bs t ∧ Sp.fre bs t < (bs.length : Int) ∧ Sp.gV bs (Sp.fre bs t) ≤ t := by
 have hb := Sp.idx_bd (p := Sp.isF t) bs 0
 have hr := (Sp.idx_row (p := Sp.isF t) bs 0 (by omega)).resolve_left (by unfold Sp.fre at h; omega)
 rw [Int.sub_zero] at hr
 unfold Sp.isF at hr
 rw [decide_eq_true_eq] at hr
 unfold Sp.fre at h ⊢
 exact ⟨by omega, by omega, hr⟩
theorem Sp.unf_le {s : List C} : Sp.unf (l ++ [s]) t ≤ Sp.unf l t + 1 := by
 unfold Sp.unf
 rw [List.filter_append, List.length_append]
 have := List.length_filter_le (fun x => decide (t < Sp.c3 x)) [s]
 rw [List.length_singleton] at this; omega
theorem Sp.unf_lt {t' : Int} (ht : t ≤ t') (h : ∃ s ∈ l, t < Sp.c3 s ∧ Sp.c3 s ≤ t') : Sp.unf l t' < Sp.unf l t := by
 unfold Sp.unf
 have aux : ∀ l : List (List C), (l.filter (fun x => decide (t' < Sp.c3 x))).length ≤ (l.filter (fun x => decide (t < Sp.c3 x))).length := fun l => by
  induction l with
  | nil => simp
  | cons x r ih =>
   rw [List.filter_cons, List.filter_cons]
   simp only [decide_eq_true_eq]
   split <;> split <;> first | omega | (simp only [List.length_cons]; omega)
 induction l with
 | nil => obtain ⟨s, hs, _⟩ := h; cases hs
 | cons x r ih =>
  obtain ⟨s, hs, h1, h2⟩ := h
  have ha := aux r
  rw [List.filter_cons, List.filter_cons]
  simp only [decide_eq_true_eq]
  by_cases hx : t < Sp.c3 x ∧ Sp.c3 x ≤ t'
  · rw [if_neg (by omega), if_pos hx.1, List.length_cons]; omega
  · have ih' := ih ⟨s, (List.mem_cons.1 hs).resolve_left (fun e => hx (e ▸ ⟨h1, h2⟩)), h1, h2⟩
    split <;> split <;> first | omega | (simp only [List.length_cons]; omega)
theorem Sp.cs_nn (h : Sp.prb ns ls cs w = true) : Sp.vld ns ls = true ∧ cs.length = ns.length ∧ (1 ≤ w ∧ w ≤ 8) ∧ ∀ i, 0 ≤ Sp.gV cs i ∧ Sp.gV cs i ≤ 1099511627776 := by
  unfold Sp.prb at h
  simp only [Bool.and_eq_true, decide_eq_true_eq] at h
  obtain ⟨⟨h1, h2, h3⟩, h4⟩ := h
  refine ⟨h1, h2, h4, fun i => ?_⟩
  by_cases hi : i.toNat < cs.length
  · have := Sp.good_at h3 (z := (i.toNat : Int)) (by omega) (by omega)
    have e : Sp.gV cs i = Sp.c0 (rGet cs (i.toNat : Int)) := by unfold Sp.gV rGet; rw [Int.toNat_natCast]
    rw [e]; exact this
  · have e : Sp.gV cs i = 0 := by
      unfold Sp.gV rGet
      rw [List.getD_eq_getElem?_getD, List.getElem?_eq_none (by omega)]; rfl
    rw [e]; omega
theorem Sp.cm_put (hp : Sp.prb ns ls cs w = true) (g : Sp.gok ns ls cs w (l, bs, t)) (hl : l.length < ns.length) (h1 : ¬ Sp.nxt ls (Sp.ord ns ls) l t = 0) (h2 : ¬ Sp.fre bs t < 0) :
 Sp.gok ns ls cs w (l ++ [[.i (Sp.nxt ls (Sp.ord ns ls) l t), .i (Sp.fre bs t), .i t, .i (t + Sp.cmC ns ls cs l t)]], rSet bs (Sp.fre bs t) [.i (t + Sp.cmC ns ls cs l t)], t) ∧
 Sp.cmM ns (l ++ [[.i (Sp.nxt ls (Sp.ord ns ls) l t), .i (Sp.fre bs t), .i t, .i (t + Sp.cmC ns ls cs l t)]]) t < Sp.cmM ns l t := by
 obtain ⟨hv, _, hw, hc⟩ := Sp.cs_nn hp
 obtain ⟨T, p, hT, g⟩ := g
 obtain ⟨f0, f1, f2⟩ := Sp.fre_ok h2
 obtain ⟨n1, n2⟩ := Sp.nxt_ok h1
 have hbl := g.bl
 simp only at hbl
 refine ⟨⟨T, p, hT, g.add (fun i => (hc i).1) hl n1 n2 f0 (by omega) f2 rfl⟩, ?_⟩
 have hu := Sp.unf_le (l := l) (t := t) (s := [.i (Sp.nxt ls (Sp.ord ns ls) l t), .i (Sp.fre bs t), .i t, .i (t + Sp.cmC ns ls cs l t)])
 unfold Sp.cmM
 rw [List.length_append, List.length_singleton, show ns.length - l.length = ns.length - (l.length + 1) + 1 by omega, Nat.add_mul]
 omega
theorem Sp.cm_wait (hp : Sp.prb ns ls cs w = true) (g : Sp.gok ns ls cs w (l, bs, t)) (hl : l.length < ns.length) (h : Sp.nxt ls (Sp.ord ns ls) l t = 0 ∨ Sp.fre bs t < 0) :
 Sp.gok ns ls cs w (l, bs, Sp.lat l t) ∧ Sp.cmM ns l (Sp.lat l t) < Sp.cmM ns l t := by
 obtain ⟨hv, _, hw, hc⟩ := Sp.cs_nn hp
 obtain ⟨T, p, hT, g⟩ := g
 have hr : ∃ s ∈ l, t < Sp.c3 s := h.elim (fun h => Sp.runs_no hv hl (Sp.nxt_0 hv h)) fun h => (g.runs_all hw.1 h).2
 have ⟨p', g'⟩ := g.on hv hT hw.1 (fun i => (hc i).1) hr (by
  by_cases hf : Sp.fre bs t < 0
  · exact .inl (g.runs_all hw.1 hf).1
  · exact .inr (Sp.nx_no hv (Sp.nxt_0 hv (h.resolve_right hf))))
 refine ⟨⟨T, p', hT, g'⟩, ?_⟩
 obtain ⟨L1, ⟨s, hs, L2⟩, _⟩ := Sp.lat_some g.t0 hr
 have := Sp.unf_lt (l := l) (t := t) (t' := Sp.lat l t) (by simp only at L1; omega) ⟨s, hs, by simp only at L1 L2; omega, by simp only at L2; omega⟩
 unfold Sp.cmM
 omega
theorem Sp.itr_fix {α : Type} {f : α → α} {x : α} (h : f x = x) : ∀ n : Nat, Sp.itr f n x = x
 | 0 => rfl
 | n + 1 => by rw [Sp.itr, h]; exact Sp.itr_fix h n
theorem Sp.cmI_put (hp : Sp.prb ns ls cs w = true) (g : Sp.cmI ns ls cs w l bs t) (hl : l.length < ns.length) (h1 : ¬ Sp.nxt ls (Sp.ord ns ls) l t = 0) (h2 : ¬ Sp.fre bs t < 0) :
 Sp.cmI ns ls cs w (l ++ [[.i (Sp.nxt ls (Sp.ord ns ls) l t), .i (Sp.fre bs t), .i t, .i (t + Sp.cmC ns ls cs l t)]]) (rSet bs (Sp.fre bs t) [.i (t + Sp.cmC ns ls cs l t)]) t ∧
 Sp.cmM ns (l ++ [[.i (Sp.nxt ls (Sp.ord ns ls) l t), .i (Sp.fre bs t), .i t, .i (t + Sp.cmC ns ls cs l t)]]) t < Sp.cmM ns l t := by
 obtain ⟨g, m, hm, he⟩ := g
 obtain ⟨g', hM⟩ := Sp.cm_put hp g hl h1 h2
 refine ⟨⟨g', m - 1, by omega, ?_⟩, hM⟩
 rw [← he]
 obtain ⟨k, rfl⟩ : ∃ k, m = k + 1 := ⟨m - 1, by omega⟩
 have e : Sp.cmS ns ls cs (l, bs, t) = (l ++ [[.i (Sp.nxt ls (Sp.ord ns ls) l t), .i (Sp.fre bs t), .i t, .i (t + Sp.cmC ns ls cs l t)]], rSet bs (Sp.fre bs t) [.i (t + Sp.cmC ns ls cs l t)], t) := by
  unfold Sp.cmS
  simp only
  rw [decide_eq_true hl, decide_eq_false h1, decide_eq_false h2]; rfl
 rw [Sp.itr, e]; rfl
theorem Sp.cmI_wait (hp : Sp.prb ns ls cs w = true) (g : Sp.cmI ns ls cs w l bs t) (hl : l.length < ns.length) (h : Sp.nxt ls (Sp.ord ns ls) l t = 0 ∨ Sp.fre bs t < 0) :
 Sp.cmI ns ls cs w l bs (Sp.lat l t) ∧ Sp.cmM ns l (Sp.lat l t) < Sp.cmM ns l t := by
 obtain ⟨g, m, hm, he⟩ := g
 obtain ⟨g', hM⟩ := Sp.cm_wait hp g hl h
 refine ⟨⟨g', m - 1, by omega, ?_⟩, hM⟩
 rw [← he]
 obtain ⟨k, rfl⟩ : ∃ k, m = k + 1 := ⟨m - 1, by omega⟩
 have e : Sp.cmS ns ls cs (l, bs, t) = (l, bs, Sp.lat l t) := by
  unfold Sp.cmS
  simp only
  rw [decide_eq_true hl, ← Bool.decide_or, decide_eq_true h]; rfl
 rw [Sp.itr, e]; rfl
theorem Sp.cmI_end (g : Sp.cmI ns ls cs w l bs t) (hl : ¬ l.length < ns.length) : l = Sp.cpl ns ls cs w := by
 obtain ⟨g, m, hm, he⟩ := g
 rw [← he, Sp.itr_fix]
 unfold Sp.cmS
 simp only
 rw [decide_eq_false hl]; rfl
theorem Sp.gok_init (hp : Sp.prb ns ls cs w = true) : Sp.gok ns ls cs w ([], List.replicate w.toNat [.i 0], 0) := by
 obtain ⟨hv, hl, hw, hc⟩ := Sp.cs_nn hp
 obtain ⟨T, hC, hT1, hT2⟩ := Sp.crit_lo (cs := cs) hv
 have gz : ∀ k : Int, Sp.gV (List.replicate w.toNat [.i 0]) k = 0 := fun k => by
  unfold Sp.gV rGet
  rw [List.getD_eq_getElem?_getD, List.getElem?_replicate]
  split <;> rfl
 refine ⟨T, 0, ⟨hT1, hT2⟩, by simp only; omega, by simp only [List.length_replicate]; omega, by simp, by simp, fun s hs => (by cases hs), fun s hs => (by cases hs), fun k _ _ => .inl (by simp only; rw [gz]; omega), ?_, by omega, hC, fun n hn _ => by have := (hT1 n hn).1; omega, fun s hs => (by cases hs)⟩
 simp only
 have e1 : Sp.una cs ns [] ns = Sp.sum cs := Sp.una_nil hl.symm fun k hk => by
  have := Sp.nix_at (Sp.nok_pw (Sp.vld_nok hv)) (i := (k : Int)) (n := Sp.c0 ns[k]) (by omega) (by omega) (by
   unfold rGet
   rw [List.getD_eq_getElem?_getD, Int.toNat_natCast, List.getElem?_eq_getElem hk]; rfl)
  rw [this]
 have e2 : ∀ n : Nat, Sp.rmn (List.replicate n [.i 0]) 0 = 0 := fun n => by
  induction n with
  | zero => rfl
  | succ n ih => rw [List.replicate_succ, Sp.rmn_cons, ih]; rfl
 rw [e1, e2]; omega
theorem Sp.cmI_init (hp : Sp.prb ns ls cs w = true) : Sp.cmI ns ls cs w [] (List.replicate w.toNat [.i 0]) 0 := by
 refine ⟨Sp.gok_init hp, (ns.length + 1) * (ns.length + 1), ?_, rfl⟩
 unfold Sp.cmM Sp.unf
 simp only [List.length_nil, List.filter_nil, Nat.add_mul, Nat.sub_zero]
 omega
theorem Sp.Gok.top (g : Sp.Gok ns ls cs w T p l bs t) (hT : Sp.TT ns ls cs T) (hw : 1 ≤ w) (hc : ∀ i, 0 ≤ Sp.gV cs i) : w * t ≤ Sp.sum cs + (w - 1) * Sp.critR ns ls cs ∧ ∀ s ∈ l, w * Sp.c3 s ≤ Sp.sum cs + (w - 1) * Sp.critR ns ls cs := by
 have gr := g.gr
 have hU := Sp.una_nn (ns0 := ns) (l := l) hc (ns := ns)
 have hR := Sp.rmn_nn (bs := bs) (t := t)
 have hm := Int.mul_le_mul_of_nonneg_left g.pC (show 0 ≤ w - 1 by omega)
 refine ⟨by omega, fun s hs => ?_⟩
 obtain ⟨a1, a2, a3, a4, a5, a6⟩ := g.sl s hs
 have hbl := g.bl
 by_cases he : Sp.c3 s ≤ t
 · have := Int.mul_le_mul_of_nonneg_left he (show 0 ≤ w by omega)
   omega
 · have b1 := g.pr s hs (by omega)
   have b2 := (hT.1 _ (g.hs s hs)).2
   have b3 := Sp.rmn_ge (t := t) (Sp.rGet_mem (xs := bs) (z := Sp.c1 s) a4 (by omega))
   have b4 : Sp.c0 (rGet bs (Sp.c1 s)) = Sp.gV bs (Sp.c1 s) := rfl
   generalize hd : Sp.c3 s - t = e at *
   have b5 : Sp.c3 s = t + e := by omega
   have b6 := Int.mul_le_mul_of_nonneg_left (show p ≤ Sp.critR ns ls cs - e by omega) (show 0 ≤ w - 1 by omega)
   rw [Int.mul_sub, Int.sub_mul w 1 e] at b6
   rw [b5, Int.mul_add]
   omega
theorem Sp.gok_all (hp : Sp.prb ns ls cs w = true) : ∀ (m : Nat) (s : List (List C) × List (List C) × Int), Sp.gok ns ls cs w s → Sp.gok ns ls cs w (Sp.itr (Sp.cmS ns ls cs) m s) ∧ (Sp.cmM ns s.1 s.2.2 ≤ m → ¬ (Sp.itr (Sp.cmS ns ls cs) m s).1.length < ns.length)
  | 0, s, g => ⟨g, fun h hl => by
    have : (ns.length - s.1.length) * (ns.length + 1) = 0 := by unfold Sp.cmM at h; omega
    rw [Nat.mul_eq_zero] at this
    have hl' : s.1.length < ns.length := hl
    omega⟩
  | m + 1, (l, bs, t), g => by
    rw [Sp.itr]
    by_cases hl : l.length < ns.length
    · by_cases h1 : Sp.nxt ls (Sp.ord ns ls) l t = 0 ∨ Sp.fre bs t < 0
      · obtain ⟨g', hM⟩ := Sp.cm_wait hp g hl h1
        have e : Sp.cmS ns ls cs (l, bs, t) = (l, bs, Sp.lat l t) := by
          unfold Sp.cmS
          simp only
          rw [decide_eq_true hl, ← Bool.decide_or, decide_eq_true h1]; rfl
        rw [e]
        have := Sp.gok_all hp m _ g'
        exact ⟨this.1, fun h => this.2 (by simp only at h ⊢; omega)⟩
      · rw [not_or] at h1
        obtain ⟨g', hM⟩ := Sp.cm_put hp g hl h1.1 h1.2
        have e : Sp.cmS ns ls cs (l, bs, t) = (l ++ [[.i (Sp.nxt ls (Sp.ord ns ls) l t), .i (Sp.fre bs t), .i t, .i (t + Sp.cmC ns ls cs l t)]], rSet bs (Sp.fre bs t) [.i (t + Sp.cmC ns ls cs l t)], t) := by
          unfold Sp.cmS
          simp only
          rw [decide_eq_true hl, decide_eq_false h1.1, decide_eq_false h1.2]; rfl
        rw [e]
        have := Sp.gok_all hp m _ g'
        exact ⟨this.1, fun h => this.2 (by simp only at h ⊢; omega)⟩
    · have e : Sp.cmS ns ls cs (l, bs, t) = (l, bs, t) := by
        unfold Sp.cmS
        simp only
        rw [decide_eq_false hl]; rfl
      rw [e, Sp.itr_fix e]
      exact ⟨g, fun _ => hl⟩
theorem Sp.cpl_fits (hp : Sp.prb ns ls cs w = true) : (Sp.cpl ns ls cs w).length = ns.length ∧ ∀ s ∈ Sp.cpl ns ls cs w, w * Sp.c3 s ≤ Sp.sum cs + (w - 1) * Sp.critR ns ls cs := by
 obtain ⟨hv, _, hw, hc⟩ := Sp.cs_nn hp
 obtain ⟨g, hd⟩ := Sp.gok_all hp ((ns.length + 1) * (ns.length + 1)) _ (Sp.gok_init hp)
 have hd' := hd (by
  unfold Sp.cmM Sp.unf
  simp only [List.length_nil, List.filter_nil, Nat.add_mul, Nat.sub_zero]
  omega)
 obtain ⟨T, p, hT, g⟩ := g
 have := g.ll
 exact ⟨by unfold Sp.cpl; omega, (g.top hT hw.1 fun i => (hc i).1).2⟩
theorem Sp.spn_acc : ∀ (l : List (List C)) (a M : Int), a ≤ M → (∀ s ∈ l, Sp.c3 s ≤ M) → l.foldl (fun a x => max a (Sp.c3 x)) a ≤ M
 | [], a, M, h, _ => h
 | x :: r, a, M, h, hs => Sp.spn_acc r _ M (by have := hs x List.mem_cons_self; show max a (Sp.c3 x) ≤ M; omega) fun s h => hs s (List.mem_cons_of_mem _ h)
end
end Go
