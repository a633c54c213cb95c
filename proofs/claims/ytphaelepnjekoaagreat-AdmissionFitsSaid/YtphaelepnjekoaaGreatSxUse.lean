import Derived.Test.YtphaelepnjekoaaGreatSxDrawn
set_option linter.unusedVariables false
set_option linter.unusedSimpArgs false
namespace Go.Sx
open Go.RowKit
variable {P : Program} {G : Nat → Option Ct}
def WL (sh : List Sh) (xs : List (List C)) : Prop := xs.length ≤ 9223372036854775807 ∧ ∀ (x : List C), x ∈ xs → WfCs sh x
def q0 (x : List C) : Int := (x.headD default).int
def q1 (x : List C) : Int := (x.tail.headD default).int
def q2 (x : List C) : Int := (x.tail.tail.headD default).int
def q3 (x : List C) : Int := (x.tail.tail.tail.headD default).int
def q4 (x : List C) : Int := (x.tail.tail.tail.tail.headD default).int
def q5 (x : List C) : Int := (x.tail.tail.tail.tail.tail.headD default).int
def dEq : C → C → Prop
 | .i a, .i b => a = b
 | .b a, .b b => a = b
 | .s a, .s b => a = b
 | .l a, .l b => a = b
 | _, _ => False
def dEqL : List C → List C → Prop
 | [], [] => True
 | x :: xs, y :: ys => dEq x y ∧ dEqL xs ys
 | _, _ => False
def dEqs : List (List C) → List (List C) → Prop
 | [], [] => True
 | x :: xs, y :: ys => dEqL x y ∧ dEqs xs ys
 | _, _ => False
theorem dEq_eq : ∀ {x y : C}, dEq x y → x = y
 | .i _, .i _, h => congrArg _ h
 | .b _, .b _, h => congrArg _ h
 | .s _, .s _, h => congrArg _ h
 | .l _, .l _, h => congrArg _ h
theorem dEqL_eq : ∀ {x y : List C}, dEqL x y → x = y
 | [], [], _ => rfl
 | _ :: _, _ :: _, h => by rw [dEq_eq h.1, dEqL_eq h.2]
theorem dEqs_eq : ∀ {x y : List (List C)}, dEqs x y → x = y
 | [], [], _ => rfl
 | _ :: _, _ :: _, h => by rw [dEqL_eq h.1, dEqs_eq h.2]
def Gives (rs : List (Bool × List Sh)) (out : List (List C)) (sv : SV) (heap : List HB) : Prop := match toArgs rs (resList rs.length (thawR heap sv)) with | some l => dEqs l out | none => False
theorem Gives.eq {rs : List (Bool × List Sh)} {out : List (List C)} {sv : SV} {heap : List HB} (h : Gives rs out sv heap) : toArgs rs (resList rs.length (thawR heap sv)) = some out := by
 unfold Gives at h
 split at h
 · rename_i l hl; rw [hl, dEqs_eq h]
 · exact h.elim
def GivesB (t : TypeId) (e : List Sh) (rs : List (Bool × List Sh)) (out : List (List C)) (sv : SV) (heap : List HB) : Prop :=
 match (heap[0]? : Option HB) with
 | some (.box cells ty) => (match toArg (true, e) (thaw heap (.agg cells)) with | some ys => ty = t ∧ dEqL ys (out.headD []) ∧ Gives rs out.tail sv heap | none => False)
 | _ => False
theorem GivesB.eq {t : TypeId} {e : List Sh} {rs : List (Bool × List Sh)} {out : List (List C)} {sv : SV} {heap : List HB} (h : GivesB t e rs out sv heap) :
 (∃ cells, heap[0]? = some (.box cells t) ∧ toArg (true, e) (thaw heap (.agg cells)) = some (out.headD [])) ∧ toArgs rs (resList rs.length (thawR heap sv)) = some out.tail := by
 unfold GivesB at h
 split at h
 · rename_i cells ty hh
   split at h
   · rename_i ys hys
     obtain ⟨rfl, h1, h2⟩ := h
     exact ⟨⟨cells, hh, by rw [hys, dEqL_eq h1]⟩, h2.eq⟩
   · exact h.elim
 · exact h.elim
def arg : Nat → List (List C) → List C
 | 0, l => l.headD []
 | n + 1, l => arg n l.tail
def cel : Nat → List C → C
 | 0, l => l.headD default
 | n + 1, l => cel n l.tail
abbrev vcF (P : Program) (G : Nat → Option Ct) (wr : FuncId → Bool) (A : FuncId → Nat → LoopAnn) (n : Nat) (f : FuncId) (args : List SV) (heap : List HB) (K : SV → List HB → Prop) : Prop :=
 vcCall P G wr A (fun b => vcDraw P G b) n f args heap K
theorem contract (hm : P.follows .mixedOrders = true) (hG : ∀ f ct, G f = some ct → SoundCt P f ct) (wr : FuncId → Bool) (A : List (List C) → FuncId → Nat → LoopAnn) (n : Nat) (f : FuncId) (ct : Ct) (hbx : ct.bx = none) (hrs : ct.rs ≠ [])
 (h : ∀ args, Wfs (ofRess ct.ps args) → ct.pre args → vcF P G wr (A args) n f (ofRess ct.ps args) [] fun sv heap => Gives ct.rs (ct.out args) sv heap) (how : ct.ow = none := by rfl) (hfr : ct.fr = none := by rfl) : SoundCt P f ct :=
 contract_of hG (fun b => draw_sound hG hm b) (fun b => draw_pure hG b) n f ct hbx how hfr hrs (KK := fun args sv heap => Gives ct.rs (ct.out args) sv heap) (fun _ _ _ h => h.eq) h
theorem contractB (hm : P.follows .mixedOrders = true) (hG : ∀ f ct, G f = some ct → SoundCt P f ct) (wr : FuncId → Bool) (A : List (List C) → FuncId → Nat → LoopAnn) (n : Nat) (f : FuncId) (ct : Ct) {t : TypeId} {e : List Sh} (hbx : ct.bx = some (t, e)) (hrs : ct.rs ≠ [])
 (h : ∀ args, Wfs (ofRess ((true, e) :: ct.ps) args) → ct.pre args → vcF P G wr (A args) n f (.ref 0 0 :: ofRess ct.ps args.tail) [.box (ofCs e (args.headD [])) t] fun sv heap => GivesB t e ct.rs (ct.out args) sv heap) : SoundCt P f ct :=
 contract_ofB hG (fun b => draw_sound hG hm b) (fun b => draw_pure hG b) n f ct hbx hrs (KK := fun args sv heap => GivesB t e ct.rs (ct.out args) sv heap) (fun _ _ _ h => h.eq) h
structure Holds (p : Prop) : Prop where
 out : p
theorem contractH (hm : P.follows .mixedOrders = true) (hG : ∀ f ct, G f = some ct → SoundCt P f ct) (wr : FuncId → Bool) (A : List (List C) → FuncId → Nat → LoopAnn) (n : Nat) (f : FuncId) (ct : Ct) (hbx : ct.bx = none) (hrs : ct.rs ≠ [])
 (h : ∀ args, Holds (Wfs (ofRess ct.ps args) → ct.pre args → vcF P G wr (A args) n f (ofRess ct.ps args) [] fun sv heap => Gives ct.rs (ct.out args) sv heap)) (how : ct.ow = none := by rfl) (hfr : ct.fr = none := by rfl) : SoundCt P f ct :=
 contract hm hG wr A n f ct hbx hrs (fun args => (h args).out) how hfr
theorem contractHB (hm : P.follows .mixedOrders = true) (hG : ∀ f ct, G f = some ct → SoundCt P f ct) (wr : FuncId → Bool) (A : List (List C) → FuncId → Nat → LoopAnn) (n : Nat) (f : FuncId) (ct : Ct) {t : TypeId} {e : List Sh} (hbx : ct.bx = some (t, e)) (hrs : ct.rs ≠ [])
 (h : ∀ args, Holds (Wfs (ofRess ((true, e) :: ct.ps) args) → ct.pre args → vcF P G wr (A args) n f (.ref 0 0 :: ofRess ct.ps args.tail) [.box (ofCs e (args.headD [])) t] fun sv heap => GivesB t e ct.rs (ct.out args) sv heap)) : SoundCt P f ct :=
 contractB hm hG wr A n f ct hbx hrs fun args => (h args).out
def look : List (Nat × Ct) → Nat → Option Ct
 | [], _ => none
 | p :: r, f => bif Nat.beq f p.1 then some p.2 else look r f
def Tb (P : Program) : List (Nat × Ct) → Prop
 | [] => True
 | p :: r => SoundCt P p.1 p.2 ∧ Tb P r
theorem look_sound {P : Program} : ∀ {l : List (Nat × Ct)}, Tb P l → ∀ f ct, look l f = some ct → SoundCt P f ct
 | [], _, _, _, h => by cases h
 | p :: r, hT, f, ct, h => by
  simp only [look] at h
  cases hb : Nat.beq f p.1 with
  | true =>
   rw [hb] at h
   injection h with h
   have := Nat.eq_of_beq_eq_true hb
   subst this; subst h; exact hT.1
  | false => rw [hb] at h; exact look_sound hT.2 f ct h
def isTrue : SV → Prop
 | .blit b => b = true
 | .bool b => b = true
 | _ => False
end Go.Sx
