/- What is to be shown of a piece of code, computed: operations in the order of the text, branches, loops, calls. -/
import Derived.Test.YtodpeopfbcblaaaSxWf
namespace Go.Sx
open Go.RowKit

structure St where
  tmps : List SV
  heap : List HB

def St.ev (s : St) : Operand → SV
  | .tmp t => s.tmps.getD t .undef
  | .const v => ofConst v
  | .global _ => .any
  | .func f => .fn f []
def putT (l : List SV) (d : Option Tmp) (x : SV) : List SV := match d with | some d => l.set d x | none => l
def St.put (s : St) (d : Option Tmp) (x : SV) : St := ⟨putT s.tmps d x, s.heap⟩

/-- How a guard stands. -/
inductive Gd where
  | run | skip | ask (t : Tmp) (b want : Bool) | bad
def guardOf (ops : List Oper) (s : St) (g : Option (Nat × Bool)) : Gd :=
  match g with
  | none => .run
  | some (j, want) =>
    match (ops[j]?).bind (·.dst) with
    | none => .bad
    | some t => match s.tmps[t]? with
      | some (.blit b) => if b == want then .run else .skip
      | some .undef => .skip
      | some (.bool b) => .ask t b want
      | _ => .bad

abbrev Inl := FuncId → List SV → List HB → (SV → List HB → Prop) → Prop

/-- A call that is to be gone into. -/
def inCall (G : Nat → Option Ct) (o : Oper) (s : St) : Option (FuncId × List SV) :=
  match o.op with
  | .call c => (match c.callee with
    | .value x => (match s.ev x with
      | .fn f caps => (match caps, G f with
        | [], some _ => none
        | _, _ => some (f, c.args.toList.map s.ev ++ caps))
      | _ => none)
    | _ => none)
  | _ => none

def vcRun (P : Program) (G : Nat → Option Ct) (wr : Bool) (inl : Inl) (o : Oper) (s : St) (K : St → Prop) : Prop :=
  match inCall G o s with
  | some (f, args) => inl f args s.heap fun sv heap => K (St.put ⟨s.tmps, heap⟩ o.dst sv)
  | none =>
    match sop P G wr o s.ev s.heap with
    | .ok none none sv heap _ _ => K (St.put ⟨s.tmps, heap⟩ o.dst sv)
    | .ok none (some chk) sv heap _ _ => chk ∧ K (St.put ⟨s.tmps, heap⟩ o.dst sv)
    | .ok (some hyp) none sv heap _ _ => hyp → K (St.put ⟨s.tmps, heap⟩ o.dst sv)
    | .ok (some hyp) (some chk) sv heap _ _ => chk ∧ (hyp → K (St.put ⟨s.tmps, heap⟩ o.dst sv))
    | .fail => False
def vcOps (P : Program) (G : Nat → Option Ct) (wr : Bool) (inl : Inl) (all : List Oper) : List Oper → St → (St → Prop) → Prop
  | [], s, K => K s
  | o :: r, s, K =>
    match guardOf all s o.guard with
    | .run => vcRun P G wr inl o s fun s => vcOps P G wr inl all r s K
    | .skip => vcOps P G wr inl all r (s.put o.dst .undef) K
    | .ask t b want => (b = want → vcRun P G wr inl o (s.put (some t) (.blit want)) fun s => vcOps P G wr inl all r s K) ∧
        (b = !want → vcOps P G wr inl all r ((s.put (some t) (.blit (!want))).put o.dst .undef) K)
    | .bad => False

/-- One symbolic value says no less than another. -/
def svLe : SV → SV → Prop
  | x, .any => True
  | x, .int k n => (match x with | .int j m => j = k ∧ m = n | .lit j m => j = k ∧ m = n | _ => False)
  | x, .lit k n => (match x with | .lit j m => j = k ∧ m = n | _ => False)
  | x, .bool b => (match x with | .bool c => c = b | .blit c => c = b | _ => False)
  | x, .blit b => (match x with | .blit c => c = b | _ => False)
  | x, .str s => (match x with | .str t => t = s | _ => False)
  | x, .sl e xs => (match x with | .sl f ys => f = e ∧ ys = xs | .nils => xs = [] | .slit n sz cs => sz = e.length ∧ toRows (toCs e) n cs = some xs | _ => False)
  | x, .nils => (match x with | .nils => True | _ => False)
  | x, .nilp => (match x with | .nilp => True | _ => False)
  | x, .ref k o => (match x with | .ref j p => j = k ∧ p = o | _ => False)
  | x, .own k => (match x with | .own j => j = k | _ => False)
  | x, .undef => (match x with | .undef => True | _ => False)
  | x, .agg cs => (match x with | .agg ds => go ds cs | _ => False)
  | x, .fn f cs => (match x with | .fn g ds => g = f ∧ go ds cs | _ => False)
  | _, _ => False
where go : List SV → List SV → Prop
  | [], [] => True
  | x :: xs, y :: ys => svLe x y ∧ go xs ys
  | _, _ => False
abbrev svLes := svLe.go
def hbLe : HB → HB → Prop
  | .box cs t, .box ds u => svLes cs ds ∧ t = u
  | .row e t xs, .row f u ys => e = f ∧ t = u ∧ xs = ys
  | _, _ => False

def maskT (ts : List Nat) : Nat → List SV → List SV
  | _, [] => []
  | i, x :: r => (if ts.contains i then .any else x) :: maskT ts (i + 1) r
def setsT : List SV → List (Nat × SV) → List SV
  | l, [] => l
  | l, (i, y) :: r => setsT (l.set i y) r
def maskH (ks : List Nat) : Nat → List HB → List HB
  | _, [] => []
  | i, x :: r => (if ks.contains i then .gone else x) :: maskH ks (i + 1) r
def setsH : List HB → List (Nat × HB) → List HB
  | l, [] => l
  | l, (i, y) :: r => setsH (l.set i y) r
def leT (l : List SV) : List (Nat × SV) → Prop
  | [] => True
  | (i, y) :: r => svLe (l.getD i .undef) y ∧ leT l r
def leH (l : List HB) : List (Nat × HB) → Prop
  | [] => True
  | (i, y) :: r => hbLe (l.getD i .gone) y ∧ leH l r

mutual
/-- No block from n on is named. -/
def below (n : Nat) : SV → Bool
  | .ref k _ => k < n
  | .own k => k < n
  | .agg cs => belows n cs
  | .tup cs => belows n cs
  | .slit _ _ cs => belows n cs
  | .cref cs => belows n cs
  | .fn _ cs => belows n cs
  | _ => true
def belows (n : Nat) : List SV → Bool
  | [] => true
  | c :: cs => below n c && belows n cs
end
def belowHB (n : Nat) : HB → Bool
  | .box cs _ => belows n cs
  | _ => true

inductive LoopAnn where
  | unroll (n : Nat)
  | inv (X : Type) (pre : X → Prop) (mk : X → List (Nat × SV)) (hp : X → List (Nat × HB)) (mu : X → Nat)

/-- The temporaries that a code writes. -/
def wrOf : Code → List Tmp
  | .region _ ops _ => ops.toList.filterMap (·.dst)
  | .seq a b => wrOf a ++ wrOf b
  | .cond _ a b => wrOf a ++ wrOf b
  | .block _ c => wrOf c
  | .loop c => wrOf c
  | .scope c => wrOf c
  | _ => []
/-- The first region's number: a loop's name. -/
def nameOf : Code → Option Nat
  | .region i _ _ => some i
  | .seq a b => (nameOf a).or (nameOf b)
  | .cond _ a b => (nameOf a).or (nameOf b)
  | .block _ c => nameOf c
  | .loop c => nameOf c
  | .scope c => nameOf c
  | _ => none

def unrollN (body : St → (Exit → St → Prop) → Prop) : Nat → St → (Exit → St → Prop) → Prop
  | 0, _, _ => False
  | n + 1, s, Q => body s fun e s' => match e with
    | .normal => unrollN body n s' Q
    | e => Q e s'
def WfHs : List (Nat × HB) → Prop
  | [] => True
  | (_, y) :: r => WfHB y ∧ WfHs r
def WfTs : List (Nat × SV) → Prop
  | [] => True
  | (_, y) :: r => Wf y ∧ WfTs r
def headOf (ws : List Nat) (s : St) (ts : List (Nat × SV)) (hs : List (Nat × HB)) : St := ⟨setsT (maskT ws 0 s.tmps) ts, setsH s.heap hs⟩
def vcInv (ws : List Nat) (body : St → (Exit → St → Prop) → Prop) (X : Type) (pre : X → Prop) (mk : X → List (Nat × SV)) (hp : X → List (Nat × HB)) (mu : X → Nat) (s : St) (Q : Exit → St → Prop) : Prop :=
  (∃ x, pre x ∧ leT s.tmps (mk x) ∧ leH s.heap (hp x)) ∧
  (∀ x, belows s.heap.length (headOf ws s (mk x) (hp x)).tmps = true ∧ (headOf ws s (mk x) (hp x)).heap.all (belowHB s.heap.length) = true) ∧
  ∀ x, pre x → WfTs (mk x) → WfHs (hp x) → body (headOf ws s (mk x) (hp x)) fun e s' => match e with
    | .normal => maskT ws 0 s'.tmps = maskT ws 0 s.tmps ∧ maskH ((hp x).map (·.1)) 0 (s'.heap.take s.heap.length) = maskH ((hp x).map (·.1)) 0 s.heap ∧
        ∃ y, pre y ∧ (hp y).map (·.1) = (hp x).map (·.1) ∧ leT s'.tmps (mk y) ∧ leH s'.heap (hp y) ∧ mu y < mu x
    | e => Q e s'

/-- What a condition came to is remembered. -/
def St.know (s : St) (c : Operand) (b : Bool) : St := match c with | .tmp t => s.put (some t) (.blit b) | _ => s

def vcCode (P : Program) (G : Nat → Option Ct) (wr : Bool) (A : Nat → LoopAnn) (draw : Array Oper → St → (St → Prop) → Prop) (inl : Inl) : Code → St → (Exit → St → Prop) → Prop
  | .skip, s, Q => Q .normal s
  | .region _ ops d, s, Q => if d then draw ops s (Q .normal) else vcOps P G wr inl ops.toList ops.toList s (Q .normal)
  | .seq a b, s, Q => vcCode P G wr A draw inl a s fun e s' => match e with
    | .normal => vcCode P G wr A draw inl b s' Q
    | e => Q e s'
  | .cond c a b, s, Q => match s.ev c with
    | .blit t => if t then vcCode P G wr A draw inl a s Q else vcCode P G wr A draw inl b s Q
    | .bool t => (t = true → vcCode P G wr A draw inl a (s.know c true) Q) ∧ (t = false → vcCode P G wr A draw inl b (s.know c false) Q)
    | _ => False
  | .block id c, s, Q => vcCode P G wr A draw inl c s fun e s' => match e with
    | .exit j => if j = id then Q .normal s' else Q (.exit j) s'
    | e => Q e s'
  | .loop c, s, Q => match A ((nameOf c).getD 0) with
    | .unroll n => unrollN (vcCode P G wr A draw inl c) n s Q
    | .inv X pre mk hp mu => vcInv (wrOf c) (vcCode P G wr A draw inl c) X pre mk hp mu s Q
  | .exit id, s, Q => Q (.exit id) s
  | .ret, s, Q => Q .ret s
  | _, _, _ => False

def resOf (P : Program) (s : St) : ResultVar → Option SV
  | .tmp t => some (s.tmps.getD t .undef)
  | .cell a t => match s.tmps.getD a .undef with
    | .ref k off => match s.heap[k]? with
      | some (.box cells _) => sPart P t cells off
      | _ => none
    | _ => none
def resSV (P : Program) (s : St) (rs : List ResultVar) : Option SV :=
  match rs.mapM (resOf P s) with
  | some [x] => some x
  | some l => some (.tup l)
  | none => none
/-- A call, gone into. -/
def vcCall (P : Program) (G : Nat → Option Ct) (wr : FuncId → Bool) (A : FuncId → Nat → LoopAnn) (draw : Bool → Array Oper → St → (St → Prop) → Prop) : Nat → Inl
  | 0, _, _, _, _ => False
  | n + 1, f, args, heap, K =>
    match P.funcs[f]? with
    | some fn => (match fn.body with
      | some c => if fn.name == "runtime.NumGoroutine" then False else
        vcCode P G (wr f) (A f) (draw (wr f)) (vcCall P G wr A draw n) c ⟨args ++ List.replicate (fn.ntmps - args.length) .undef, heap⟩ fun e s =>
          match e with
          | .normal | .ret => (match resSV P s fn.results.toList with | some x => K x s.heap | none => False)
          | _ => False
      | none => False)
    | none => False
end Go.Sx
