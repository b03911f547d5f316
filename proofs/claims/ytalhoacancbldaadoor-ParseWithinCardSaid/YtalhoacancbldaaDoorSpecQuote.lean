/- plain definitions and laws: quoted strings -/
import Derived.Test.YtalhoacancbldaaDoorSpecUtf
namespace Go.Proofs.YtalhoacancbldaaDoor
set_option linter.unusedVariables false
set_option linter.unusedSimpArgs false

/-- a hex digit's value -/
def hexv (c : UInt8) : Option Nat :=
  if 48 ≤ c.toNat ∧ c.toNat ≤ 57 then some (c.toNat - 48) else if 97 ≤ c.toNat ∧ c.toNat ≤ 102 then some (c.toNat - 97 + 10)
  else if 65 ≤ c.toNat ∧ c.toNat ≤ 70 then some (c.toNat - 65 + 10) else none
def hexs : List UInt8 → Nat → Option Nat
  | [], n => some n
  | c :: r, n => match hexv c with | some h => hexs r (n * 16 + h) | none => none
/-- the unit that an escape \uXXXX tells -/
def unitO (l : List UInt8) (a : Nat) : Option Nat :=
  if l.length < a + 6 ∨ l[a]? ≠ some 92 ∨ l[a + 1]? ≠ some 117 then none else hexs ((l.drop (a + 2)).take 4) 0
def optI : Option Nat → Int | some n => n | none => -1
def unitI (l : List UInt8) (a : Nat) : Int := optI (unitO l a)
/-- the letter behind a backslash -/
def letterS (c : Nat) : Option Nat :=
  if c = 34 then some 34 else if c = 92 then some 92 else if c = 47 then some 47 else if c = 98 then some 8
  else if c = 102 then some 12 else if c = 110 then some 10 else if c = 114 then some 13 else if c = 116 then some 9 else none
def escS (l : List UInt8) (a : Nat) : Int × Int × Int :=
  match unitO l a with
  | some u =>
    if 0 < cpSize u then (u, a + 6, 0) else if u < 56320 then
      match unitO l (a + 6) with
      | some v => if 56320 ≤ v ∧ v ≤ 57343 then (65536 + (u - 55296) * 1024 + v - 56320, a + 12, 0) else (0, 0, 7)
      | none => (0, 0, 7)
    else (0, 0, 7)
  | none =>
    match l[a + 1]? with
    | some c => match letterS c.toNat with | some x => (x, a + 2, 0) | none => (0, 0, 7)
    | none => (0, 0, 7)
theorem hexv_lt {c : UInt8} {h : Nat} (e : hexv c = some h) : h < 16 := by
  unfold hexv at e
  repeat' split at e
  all_goals first | (cases e; omega) | cases e
theorem hexs_lt : ∀ {r : List UInt8} {n m : Nat}, hexs r n = some m → m < (n + 1) * 16 ^ r.length
  | [], n, m, h => by simp only [hexs, Option.some.injEq] at h; simp; omega
  | c :: r, n, m, h => by
    unfold hexs at h
    cases e : hexv c with
    | none => rw [e] at h; cases h
    | some d =>
      rw [e] at h
      have h1 := hexs_lt h
      have h2 := hexv_lt e
      have h3 : (n * 16 + d + 1) * 16 ^ r.length ≤ (n + 1) * 16 * 16 ^ r.length := Nat.mul_le_mul_right _ (by omega)
      rw [List.length_cons, Nat.pow_succ, Nat.mul_comm (16 ^ _), ← Nat.mul_assoc]
      omega
theorem unitO_lt {l : List UInt8} {a u : Nat} (h : unitO l a = some u) : u < 65536 ∧ a + 6 ≤ l.length := by
  unfold unitO at h
  split at h
  · cases h
  · rename_i hc
    have h1 := hexs_lt h
    have h2 : ((l.drop (a + 2)).take 4).length ≤ 4 := by simp; omega
    have h3 : 16 ^ ((l.drop (a + 2)).take 4).length ≤ 16 ^ 4 := Nat.pow_le_pow_right (by omega) h2
    constructor
    · omega
    · omega
end Go.Proofs.YtalhoacancbldaaDoor
