/- Plain: what the program's Parse and Value answer is what the reference's Parse and Read answer. -/
import Derived.Test.YtoejdhabpajhlaaGreatDoorRightP
import Derived.Test.YtoejdhabpajhlaaGreatDoorParse16
namespace Go.Proofs.YtoejdhabpajhlaaGreatDoor
set_option linter.unusedVariables false
set_option linter.unusedSimpArgs false

/-- what the reference's Parse makes of how a value was read -/
def refOut (l : List UInt8) : RRes → JV × Int × Int
  | .err p e => (jZero, p, e)
  | .ok v q _ => if skipB l q < l.length then (jZero, skipB l q, 7) else (v, 0, 0)
/-- and what ParseAt asks of it -/
def refAt : RRes → JV × Int × Int
  | .err p e => (jZero, p, e)
  | .ok v q _ => (v, q, 0)
/-- what the reference's Parse answers -/
def RefR (l : List UInt8) (o : JV × Int × Int) : Prop := if 2048 < l.length then o = (jZero, 0, 3) else ∃ r, RdR l 0 0 0 r ∧ o = refOut l r
theorem start_reach {l : List UInt8} {a : Nat} {r : RRes} (h : RdR l a 0 0 r) : Reach l (.go 0 a 0 []) (outR r []) :=
  Reach.step (show Reach l (pValue l a 0 []) _ from sim_rd h [] rfl)
theorem outR_end (r : RRes) : isEnd (outR r []) := by cases r <;> trivial
theorem refOut_is (l : List UInt8) (r : RRes) : parseOut l (outR r []) = refOut l r := by cases r <;> rfl
theorem refAt_is (r : RRes) : valueOut (outR r []) = refAt r := by cases r <;> rfl
theorem reads_law {l : List UInt8} {o o' : JV × Int × Int} (h : ParseR l o) (h' : RefR l o') : o = o' := by
  by_cases hl : 2048 < l.length
  · unfold ParseR at h
    unfold RefR at h'
    rw [if_pos hl] at h h'
    rw [h, h']
  · unfold RefR at h'
    rw [if_neg hl] at h'
    obtain ⟨r, h1, rfl⟩ := h'
    rw [ParseR_det (by omega) (start_reach h1) (outR_end r) h, refOut_is]
theorem at_law {l : List UInt8} {a : Nat} {o : JV × Int × Int} {r : RRes} (hl : l.length ≤ 2048) (ha : a ≤ l.length) (h : ValueR l a o) (h' : RdR l a 0 0 r) : o = refAt r := by
  rw [ValueR_det hl ha (start_reach h') (outR_end r) h, refAt_is]
/-- nothing, or a value that may be -/
def FineJ (v : JV) : Prop := v = jZero ∨ (rightJ 8 v ∧ nodesJ v ≤ 256)
theorem fine_at {l : List UInt8} {a : Nat} {r : RRes} (hl : l.length ≤ 262144) (h : RdR l a 0 0 r) : FineJ (refAt r).1 := by
  have h1 := rd_right hl h (Nat.zero_le _) (Nat.zero_le _)
  cases r with
  | err p e => exact .inl rfl
  | ok v q k =>
    obtain ⟨h2, h3, h4⟩ := h1
    exact .inr ⟨h2, by show nodesJ v ≤ 256; omega⟩
theorem fine_out {l : List UInt8} {o : JV × Int × Int} (h : RefR l o) : FineJ o.1 := by
  unfold RefR at h
  by_cases hl : 2048 < l.length
  · rw [if_pos hl] at h; rw [h]; exact .inl rfl
  · rw [if_neg hl] at h
    obtain ⟨r, h1, rfl⟩ := h
    have h2 := fine_at (by omega) h1
    cases r with
    | err p e => exact .inl rfl
    | ok v q k =>
      unfold refOut
      simp only
      split
      · exact .inl rfl
      · exact h2
end Go.Proofs.YtoejdhabpajhlaaGreatDoor
