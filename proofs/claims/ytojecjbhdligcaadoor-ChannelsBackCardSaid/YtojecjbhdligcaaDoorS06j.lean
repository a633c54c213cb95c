/- strings.Join: the kit's contract laid at this program in plain words; what it gives. -/
import Derived.Test.YtojecjbhdligcaaDoorSxOpen
import Derived.Shelf.Strings.OnBuilder
import Derived.Test.YtojecjbhdligcaaDoorS06s
import Derived.KernelRfl
set_option linter.unusedVariables false
set_option linter.unusedSimpArgs false
namespace Go.Proofs
open Go.Shelf Go.RowKit Go.Lib
def Tryd.layJoin_ren : Go.Shelf.Ren := ⟨fun | 156 => 24 | 165 => 31 | 166 => 32 | 169 => 33 | 240 => 39 | 241 => 40 | 276 => 56 | 277 => 57 | n => n, fun | 31 => 36 | 9 => 9 | 3 => 3 | 4 => 4 | 0 => 0 | 20 => 20 | 72 => 47 | 76 => 51 | 70 => 44 | 37 => 45 | 75 => 50 | 127 => 59 | 164 => 77 | 5 => 5 | 80 => 53 | n => n, fun | n => n⟩
theorem Tryd.layJoin : Go.Proofs.Lays.n156 Tryd.prog Tryd.layJoin_ren := {
  mixed := by kernel_rfl,
  f156 := Tryd.func24.trans (congrArg some (by kernel_rfl)),
  f165 := Tryd.func31.trans (congrArg some (by kernel_rfl)),
  f166 := Tryd.func32.trans (congrArg some (by kernel_rfl)),
  f169 := Tryd.func33.trans (congrArg some (by kernel_rfl)),
  f240 := Tryd.func39.trans (congrArg some (by kernel_rfl)),
  f241 := Tryd.func40.trans (congrArg some (by kernel_rfl)),
  f276 := Tryd.func56.trans (congrArg some (by kernel_rfl)),
  f277 := Tryd.func57.trans (congrArg some (by kernel_rfl)),
  t0 := Tryd.underlying0,
  a0 := Tryd.isAgg0,
  z0 := Tryd.sizeOf0,
  v0 := Tryd.zeroValue0,
  t3 := Tryd.underlying3,
  a3 := Tryd.isAgg3,
  z3 := Tryd.sizeOf3,
  v3 := Tryd.zeroValue3,
  t4 := Tryd.underlying4,
  a4 := Tryd.isAgg4,
  z4 := Tryd.sizeOf4,
  v4 := Tryd.zeroValue4,
  t9 := Tryd.underlying9,
  a9 := Tryd.isAgg9,
  z9 := Tryd.sizeOf9,
  v9 := Tryd.zeroValue9,
  t20 := Tryd.underlying20,
  a20 := Tryd.isAgg20,
  z20 := Tryd.sizeOf20,
  v20 := Tryd.zeroValue20,
  t31 := Tryd.underlying36,
  a31 := Tryd.isAgg36,
  z31 := Tryd.sizeOf36,
  v31 := Tryd.zeroValue36,
  t37 := Tryd.underlying45,
  a37 := Tryd.isAgg45,
  z37 := Tryd.sizeOf45,
  v37 := Tryd.zeroValue45,
  t70 := Tryd.underlying44,
  a70 := Tryd.isAgg44,
  z70 := Tryd.sizeOf44,
  v70 := Tryd.zeroValue44,
  t72 := Tryd.underlying47,
  a72 := Tryd.isAgg47,
  z72 := Tryd.sizeOf47,
  v72 := Tryd.zeroValue47,
  t75 := Tryd.underlying50,
  a75 := Tryd.isAgg50,
  z75 := Tryd.sizeOf50,
  v75 := Tryd.zeroValue50,
  t76 := Tryd.underlying51,
  a76 := Tryd.isAgg51,
  z76 := Tryd.sizeOf51,
  v76 := Tryd.zeroValue51,
  t127 := Tryd.underlying59,
  a127 := Tryd.isAgg59,
  z127 := Tryd.sizeOf59,
  v127 := Tryd.zeroValue59,
  t164 := Tryd.underlying77,
  a164 := Tryd.isAgg77,
  z164 := Tryd.sizeOf77,
  v164 := Tryd.zeroValue77 }
def Tryd.layX_ren : Go.Shelf.Ren := ⟨fun | 156 => 24 | 165 => 31 | 166 => 32 | 169 => 33 | 240 => 39 | 241 => 40 | 276 => 56 | 277 => 57 | n => n, fun | 31 => 36 | 9 => 9 | 3 => 3 | 4 => 4 | 0 => 0 | 20 => 20 | 72 => 47 | 76 => 51 | 70 => 44 | 37 => 45 | 75 => 50 | 127 => 59 | 164 => 77 | 5 => 5 | 80 => 53 | n => n, fun | n => n⟩
theorem Tryd.layX : Go.Proofs.Builder.Extra Tryd.prog Tryd.layX_ren := {
  sizeBuilder := by kernel_rfl,
  liesBuilder := by kernel_rfl,
  t5 := Tryd.underlying5,
  a5 := Tryd.isAgg5,
  z5 := Tryd.sizeOf5,
  v5 := Tryd.zeroValue5,
  infoByte := by kernel_rfl,
  cellsByte := by kernel_rfl,
  sizeByte := by kernel_rfl,
  neB5 := of_decide_eq_true (by kernel_rfl) }
end Go.Proofs
namespace Go
open Go.Sx
def Sp.jnB (xs : List ByteArray) (sep : ByteArray) : ByteArray := ⟨(Lib.join (xs.map (·.data.toList)) sep.data.toList).toArray⟩
def Sp.s0 (x : List C) : ByteArray := (x.headD default).str
def Sp.jn (xs : List (List C)) (sep : ByteArray) : ByteArray := Sp.jnB (xs.map Sp.s0) sep
def Sp.jz (xs : List (List C)) (sep : ByteArray) : Int := ((Sp.jn xs sep).size : Int)
end Go
namespace Go.Sx
open Go.RowKit Go.Proofs
def ct24 : Ct := { ps := [(false, [.sl [.str]]), (false, [.str])], rs := [(false, [.str])], pre := fun a => pLe ((cel 0 (arg 0 a)).list.length : Int) 1000 ∧ pLe (Sp.jz (cel 0 (arg 0 a)).list (cel 0 (arg 1 a)).str) 100000, out := fun a => [[.s (Sp.jn (cel 0 (arg 0 a)).list (cel 0 (arg 1 a)).str)]] }
set_option maxHeartbeats 1000000 in
theorem s24 : SoundCt Go.Proofs.Tryd.prog 24 ct24 := by
  refine ⟨fun args ha hp => ?_, fun _ _ _ V args vals hlt hbd hw hpre hv => ?_, fun t e h => (by cases h), fun t e r _ h => (by cases h), fun t e _ _ h => (by cases h)⟩
  · simp only [Ct.aps, Ct.ars, ct24, ofRess, Wfs, ofRes, ofCs, ofC, List.headD_cons, Wf, and_true] at ha ⊢
    show (Sp.jn (cel 0 (arg 0 args)).list (cel 0 (arg 1 args)).str).size ≤ maxLen
    have hp2 : ((Sp.jn (cel 0 (arg 0 args)).list (cel 0 (arg 1 args)).str).size : Int) ≤ 100000 := hp.2
    simp only [maxLen]; omega
  · simp only [ct24, ofRess, VRs, ofRes, ofCs, ofC, List.headD_cons, VR] at hv
    obtain ⟨v0, _, rfl, h0, v1, _, rfl, rfl, rfl⟩ := hv
    obtain ⟨hp1, hp2⟩ := hpre
    simp only [pLe, Sp.jz] at hp1 hp2
    have e0 : (cel 0 (arg 0 args)) = (args.headD []).headD default := rfl
    have e1 : (cel 0 (arg 1 args)) = (args.tail.headD []).headD default := rfl
    rw [e0] at hp1
    rw [e0, e1] at hp2
    simp only [Ct.sv, Ct.outs, ct24, ofRess, ofRes, ofCs, ofC, List.headD_cons, VR, e0, e1, show ∀ x, (C.s x).str = x from fun _ => rfl]
    generalize ((args.headD []).headD default).list = xs at *
    generalize ((args.tail.headD []).headD default).str = sep at *
    simp only [RepC, show ∀ x, (C.l x).list = x from fun _ => rfl] at h0
    obtain ⟨a, n, cap, rfl, h1, h2, h3, h4⟩ := h0
    subst h3
    refine runs_of_calls (by kernel_rfl) ?_
    by_cases hn : xs.length = 0
    · obtain rfl : xs = [] := List.eq_nil_of_length_eq_zero hn
      refine (Any.strings_Join_none Tryd.layJoin Tryd.layX a cap sep V.w).mono ?_
      rintro e w' ⟨rfl, rfl⟩
      exact ⟨_, rfl, Below.refl _ _, rfl⟩
    · rcases h4 with h4 | ⟨b, o, rfl, hok, h4⟩
      · exact absurd h4 hn
      have hc : ∀ (j : Nat) x, (xs.map Sp.s0)[j]? = some x → V.w.cell? ⟨b, o + j, none⟩ = some (.string x) := by
        intro j x hj
        rw [List.getElem?_map, Option.map_eq_some_iff] at hj
        obtain ⟨y, hy, rfl⟩ := hj
        have hjl := (List.getElem?_eq_some_iff.1 hy).1
        have := h4 j hjl
        simp only [RepCs, and_true, List.length_singleton, Nat.mul_one, RepC] at this
        obtain ⟨u, q1, q2, q3⟩ := this
        rw [q1, q3, List.getD_eq_getElem?_getD, hy]; rfl
      have hlen : (xs.map Sp.s0).length = xs.length := List.length_map _
      have hcon := Any.strings_Join Tryd.layJoin Tryd.layX b o cap (xs.map Sp.s0) sep V.w hc hok.1 (by omega) (by omega) (by
        have : (Sp.jn xs sep).size = (Lib.join ((xs.map Sp.s0).map (·.data.toList)) sep.data.toList).length := by
          simp only [Sp.jn, Sp.jnB, ByteArray.size]; exact List.size_toArray
        omega)
      change Calls Tryd.prog 24 _ _ _ at hcon
      rw [hlen] at hcon
      refine hcon.mono ?_
      rintro e w' ⟨rfl, hb⟩
      exact ⟨_, rfl, hb, rfl⟩
end Go.Sx
