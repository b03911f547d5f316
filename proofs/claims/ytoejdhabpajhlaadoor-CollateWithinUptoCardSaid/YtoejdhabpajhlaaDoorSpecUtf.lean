
/- plain definitions and laws on bytes: code points -/
namespace Go.Proofs.YtoejdhabpajhlaaDoor
set_option linter.unusedVariables false
set_option linter.unusedSimpArgs false

/-- how many bytes a code point has; 0: it is none -/
def cpLen (p : Nat) : Nat :=
  if 1114111 < p ∨ (55296 ≤ p ∧ p ≤ 57343) then 0 else if p < 128 then 1 else if p < 2048 then 2 else if p < 65536 then 3 else 4
def cpSize (p : Int) : Int := if p < 0 then 0 else cpLen p.toNat

def isCp (cp : Int) : Bool := decide (0 ≤ cp ∧ cp ≤ 1114111 ∧ ¬ (55296 ≤ cp ∧ cp ≤ 57343))

/-- a code point's bytes -/
def cpBytes (cp : Nat) : List UInt8 :=
  if cp < 128 then [UInt8.ofNat cp]
  else if cp < 2048 then [UInt8.ofNat (192 + cp / 64), UInt8.ofNat (128 + cp % 64)]
  else if cp < 65536 then [UInt8.ofNat (224 + cp / 4096), UInt8.ofNat (128 + cp / 64 % 64), UInt8.ofNat (128 + cp % 64)]
  else [UInt8.ofNat (240 + cp / 262144), UInt8.ofNat (128 + cp / 4096 % 64), UInt8.ofNat (128 + cp / 64 % 64), UInt8.ofNat (128 + cp % 64)]

/-- the number that the first n bytes of a row make -/
def cpNum (l : List UInt8) (n : Nat) : Nat :=
  ((l.drop 1).take (n - 1)).foldl (fun cp c => cp * 64 + c.toNat % 64) ((l.headD 0).toNat % (match n with | 1 => 256 | 2 => 32 | 3 => 16 | _ => 8))

def cpOk (l : List UInt8) (n : Nat) : Bool := decide (n ≤ l.length) && (isCp (cpNum l n) && cpBytes (cpNum l n) == l.take n)

/-- the code point whose bytes begin a row, and how many they are; 0: none does -/
def cpBegin (l : List UInt8) : Nat × Nat :=
  if cpOk l 1 then (cpNum l 1, 1) else if cpOk l 2 then (cpNum l 2, 2) else if cpOk l 3 then (cpNum l 3, 3) else if cpOk l 4 then (cpNum l 4, 4) else (0, 0)

/-- what the program makes of a first byte: bits, mark, size -/
def sizedS (c : Nat) : Nat × Nat × Nat :=
  if c / 128 = 0 then (7, 0, 1) else if c / 32 = 6 then (5, 192, 2) else if c / 16 = 14 then (4, 224, 3) else if c / 8 = 30 then (3, 240, 4) else (0, 0, 0)

/-- what the program makes of a row -/
def nextS (l : List UInt8) : Nat × Nat :=
  if (sizedS (l.headD 0).toNat).1 = 0 ∨ l.length < (sizedS (l.headD 0).toNat).2.2 then (0, 0)
  else if ((l.drop 1).take ((sizedS (l.headD 0).toNat).2.2 - 1)).any (fun c => c.toNat / 64 != 2) then (0, 0)
  else if cpLen (((l.drop 1).take ((sizedS (l.headD 0).toNat).2.2 - 1)).foldl (fun p c => p * 64 + c.toNat % 64) ((l.headD 0).toNat % 2 ^ (sizedS (l.headD 0).toNat).1)) ≠ (sizedS (l.headD 0).toNat).2.2 then (0, 0)
  else (((l.drop 1).take ((sizedS (l.headD 0).toNat).2.2 - 1)).foldl (fun p c => p * 64 + c.toNat % 64) ((l.headD 0).toNat % 2 ^ (sizedS (l.headD 0).toNat).1), (sizedS (l.headD 0).toNat).2.2)

theorem ofNat_eq {n : Nat} {c : UInt8} : (UInt8.ofNat n = c) ↔ n % 256 = c.toNat := by
  rw [← UInt8.toNat_inj]; simp

theorem isCp_iff (n : Nat) : isCp (n : Int) = true ↔ (n ≤ 1114111 ∧ ¬ (55296 ≤ n ∧ n ≤ 57343)) := by
  simp only [isCp, decide_eq_true_eq]; omega

theorem cpOk_iff (l : List UInt8) (n : Nat) : cpOk l n = true ↔ n ≤ l.length ∧ (cpNum l n ≤ 1114111 ∧ ¬ (55296 ≤ cpNum l n ∧ cpNum l n ≤ 57343)) ∧ cpBytes (cpNum l n) = l.take n := by
  simp only [cpOk, Bool.and_eq_true, isCp_iff, beq_iff_eq, decide_eq_true_eq]

theorem ok1 (c0 : UInt8) (r : List UInt8) : cpOk (c0 :: r) 1 = true ↔ c0.toNat < 128 := by
  have b0 := c0.toNat_lt
  have e : cpNum (c0 :: r) 1 = c0.toNat := by simp [cpNum]
  rw [cpOk_iff, e]
  unfold cpBytes
  by_cases h : c0.toNat < 128
  · simp [h]; omega
  · rw [if_neg h, if_pos (by omega)]; simp [h]
theorem ok2 (c0 c1 : UInt8) (r : List UInt8) : cpOk (c0 :: c1 :: r) 2 = true ↔ (194 ≤ c0.toNat ∧ c0.toNat < 224 ∧ c1.toNat / 64 = 2) := by
  have b0 := c0.toNat_lt
  have b1 := c1.toNat_lt
  have e : cpNum (c0 :: c1 :: r) 2 = c0.toNat % 32 * 64 + c1.toNat % 64 := by simp [cpNum]
  rw [cpOk_iff, e]
  unfold cpBytes
  by_cases h : c0.toNat % 32 * 64 + c1.toNat % 64 < 128
  · rw [if_pos h]; simp; omega
  · rw [if_neg h, if_pos (by omega)]; show _ ∧ _ ∧ [_, _] = [_, _] ↔ _; simp only [List.cons.injEq, and_true, ofNat_eq, List.length_cons]; omega
theorem ok3 (c0 c1 c2 : UInt8) (r : List UInt8) : cpOk (c0 :: c1 :: c2 :: r) 3 = true ↔ (c0.toNat / 16 = 14 ∧ c1.toNat / 64 = 2 ∧ c2.toNat / 64 = 2 ∧
    2048 ≤ (c0.toNat % 16 * 64 + c1.toNat % 64) * 64 + c2.toNat % 64 ∧ ¬ (55296 ≤ (c0.toNat % 16 * 64 + c1.toNat % 64) * 64 + c2.toNat % 64 ∧ (c0.toNat % 16 * 64 + c1.toNat % 64) * 64 + c2.toNat % 64 ≤ 57343)) := by
  have b0 := c0.toNat_lt
  have b1 := c1.toNat_lt
  have b2 := c2.toNat_lt
  have e : cpNum (c0 :: c1 :: c2 :: r) 3 = (c0.toNat % 16 * 64 + c1.toNat % 64) * 64 + c2.toNat % 64 := by simp [cpNum]
  rw [cpOk_iff, e]
  generalize hp : (c0.toNat % 16 * 64 + c1.toNat % 64) * 64 + c2.toNat % 64 = p
  unfold cpBytes
  by_cases h : p < 128
  · rw [if_pos h]; simp; omega
  · rw [if_neg h]
    by_cases h : p < 2048
    · rw [if_pos h]; simp; omega
    · rw [if_neg h, if_pos (by omega)]; show _ ∧ _ ∧ [_, _, _] = [_, _, _] ↔ _; simp only [List.cons.injEq, and_true, ofNat_eq, List.length_cons]; omega
theorem ok4 (c0 c1 c2 c3 : UInt8) (r : List UInt8) : cpOk (c0 :: c1 :: c2 :: c3 :: r) 4 = true ↔ (c0.toNat / 8 = 30 ∧ c1.toNat / 64 = 2 ∧ c2.toNat / 64 = 2 ∧ c3.toNat / 64 = 2 ∧
    65536 ≤ ((c0.toNat % 8 * 64 + c1.toNat % 64) * 64 + c2.toNat % 64) * 64 + c3.toNat % 64 ∧ ((c0.toNat % 8 * 64 + c1.toNat % 64) * 64 + c2.toNat % 64) * 64 + c3.toNat % 64 ≤ 1114111) := by
  have b0 := c0.toNat_lt
  have b1 := c1.toNat_lt
  have b2 := c2.toNat_lt
  have b3 := c3.toNat_lt
  have e : cpNum (c0 :: c1 :: c2 :: c3 :: r) 4 = ((c0.toNat % 8 * 64 + c1.toNat % 64) * 64 + c2.toNat % 64) * 64 + c3.toNat % 64 := by simp [cpNum]
  rw [cpOk_iff, e]
  generalize hp : ((c0.toNat % 8 * 64 + c1.toNat % 64) * 64 + c2.toNat % 64) * 64 + c3.toNat % 64 = p
  unfold cpBytes
  by_cases h : p < 128
  · rw [if_pos h]; simp; omega
  · rw [if_neg h]
    by_cases h : p < 2048
    · rw [if_pos h]; simp; omega
    · rw [if_neg h]
      by_cases h : p < 65536
      · rw [if_pos h]; simp; omega
      · rw [if_neg h]; show _ ∧ _ ∧ [_, _, _, _] = [_, _, _, _] ↔ _; simp only [List.cons.injEq, and_true, ofNat_eq, List.length_cons]; omega
theorem okShort (l : List UInt8) (n : Nat) (h : l.length < n) : cpOk l n = false := by
  simp only [cpOk, Bool.and_eq_false_iff, decide_eq_false_iff_not]; omega

theorem begin_1 {l : List UInt8} (h : cpOk l 1 = true) : cpBegin l = (cpNum l 1, 1) := by simp [cpBegin, h]
theorem begin_2 {l : List UInt8} (h1 : cpOk l 1 = false) (h : cpOk l 2 = true) : cpBegin l = (cpNum l 2, 2) := by simp [cpBegin, h1, h]
theorem begin_3 {l : List UInt8} (h1 : cpOk l 1 = false) (h2 : cpOk l 2 = false) (h : cpOk l 3 = true) : cpBegin l = (cpNum l 3, 3) := by simp [cpBegin, h1, h2, h]
theorem begin_4 {l : List UInt8} (h1 : cpOk l 1 = false) (h2 : cpOk l 2 = false) (h3 : cpOk l 3 = false) (h : cpOk l 4 = true) : cpBegin l = (cpNum l 4, 4) := by simp [cpBegin, h1, h2, h3, h]
theorem begin_0 {l : List UInt8} (h1 : cpOk l 1 = false) (h2 : cpOk l 2 = false) (h3 : cpOk l 3 = false) (h4 : cpOk l 4 = false) : cpBegin l = (0, 0) := by simp [cpBegin, h1, h2, h3, h4]
theorem no2 (c0 : UInt8) (r : List UInt8) (h : ¬ c0.toNat / 32 = 6) : cpOk (c0 :: r) 2 = false := by
  rw [Bool.eq_false_iff]; intro hh
  rcases r with _ | ⟨c1, r⟩
  · simp [okShort] at hh
  · rw [ok2] at hh; omega
theorem no3 (c0 : UInt8) (r : List UInt8) (h : ¬ c0.toNat / 16 = 14) : cpOk (c0 :: r) 3 = false := by
  rw [Bool.eq_false_iff]; intro hh
  rcases r with _ | ⟨c1, _ | ⟨c2, r⟩⟩
  · simp [okShort] at hh
  · simp [okShort] at hh
  · rw [ok3] at hh; omega
theorem no4 (c0 : UInt8) (r : List UInt8) (h : ¬ c0.toNat / 8 = 30) : cpOk (c0 :: r) 4 = false := by
  rw [Bool.eq_false_iff]; intro hh
  rcases r with _ | ⟨c1, _ | ⟨c2, _ | ⟨c3, r⟩⟩⟩
  · simp [okShort] at hh
  · simp [okShort] at hh
  · simp [okShort] at hh
  · rw [ok4] at hh; omega
theorem cpLen_iff (p n : Nat) : cpLen p = n ↔ ((n = 0 ∧ (1114111 < p ∨ 55296 ≤ p ∧ p ≤ 57343)) ∨ (n = 1 ∧ p < 128) ∨ (n = 2 ∧ 128 ≤ p ∧ p < 2048) ∨ (n = 3 ∧ 2048 ≤ p ∧ p < 65536 ∧ ¬ (55296 ≤ p ∧ p ≤ 57343)) ∨ (n = 4 ∧ 65536 ≤ p ∧ p ≤ 1114111)) := by
  unfold cpLen
  repeat' split
  all_goals omega
theorem cpSize_eq (p : Int) : cpSize p = if p < 0 ∨ 1114111 < p ∨ (55296 ≤ p ∧ p ≤ 57343) then 0 else if p < 128 then 1 else if p < 2048 then 2 else if p < 65536 then 3 else 4 := by
  unfold cpSize
  by_cases h : p < 0
  · rw [if_pos h, if_pos (.inl h)]
  · rw [if_neg h]
    obtain ⟨n, rfl⟩ := Int.eq_ofNat_of_zero_le (Int.not_lt.1 h)
    rw [Int.toNat_natCast]
    have := (cpLen_iff n (cpLen n)).1 rfl
    generalize cpLen n = k at this
    repeat' split
    all_goals omega
theorem cpSize_int (p n : Nat) : cpSize (p : Int) = (n : Int) ↔ cpLen p = n := by
  unfold cpSize; rw [if_neg (by omega), Int.toNat_natCast]; omega

theorem nextS_eq (l : List UInt8) (h : l ≠ []) : nextS l = cpBegin l := by
  obtain ⟨c0, r, rfl⟩ := List.exists_cons_of_ne_nil h
  have b0 := c0.toNat_lt
  by_cases h1 : c0.toNat / 128 = 0
  · have hs : sizedS c0.toNat = (7, 0, 1) := by simp [sizedS, h1]
    rw [begin_1 ((ok1 _ _).2 (by omega))]
    have n1 : cpNum (c0 :: r) 1 = c0.toNat := by simp [cpNum]
    have e : c0.toNat % 2 ^ 7 = c0.toNat := by omega
    simp [nextS, hs, n1, e, cpLen_iff]; omega
  · have f1 : cpOk (c0 :: r) 1 = false := by rw [Bool.eq_false_iff]; intro hh; rw [ok1] at hh; omega
    by_cases h2 : c0.toNat / 32 = 6
    · have hs : sizedS c0.toNat = (5, 192, 2) := by simp [sizedS, h1, h2]
      have f3 := no3 c0 r (by omega)
      have f4 := no4 c0 r (by omega)
      rcases r with _ | ⟨c1, r⟩
      · rw [begin_0 f1 (okShort _ _ (by simp)) f3 f4]; simp [nextS, hs]
      · have b1 := c1.toNat_lt
        have n2 : cpNum (c0 :: c1 :: r) 2 = c0.toNat % 32 * 64 + c1.toNat % 64 := by simp [cpNum]
        by_cases hA : cpOk (c0 :: c1 :: r) 2 = true
        · rw [begin_2 f1 hA, n2]
          rw [ok2] at hA
          simp [nextS, hs, hA, cpLen_iff]; rw [if_neg (by omega), if_neg (by omega)]
        · rw [begin_0 f1 (by simpa using hA) f3 f4]
          rw [ok2] at hA
          simp [nextS, hs, cpLen_iff]; omega
    · have f2 := no2 c0 r h2
      by_cases h3 : c0.toNat / 16 = 14
      · have hs : sizedS c0.toNat = (4, 224, 3) := by simp [sizedS, h1, h2, h3]
        have f4 := no4 c0 r (by omega)
        rcases r with _ | ⟨c1, _ | ⟨c2, r⟩⟩
        · rw [begin_0 f1 f2 (okShort _ _ (by simp)) f4]; simp [nextS, hs]
        · rw [begin_0 f1 f2 (okShort _ _ (by simp)) f4]; simp [nextS, hs]
        · have b1 := c1.toNat_lt
          have b2 := c2.toNat_lt
          have n3 : cpNum (c0 :: c1 :: c2 :: r) 3 = (c0.toNat % 16 * 64 + c1.toNat % 64) * 64 + c2.toNat % 64 := by simp [cpNum]
          by_cases hA : cpOk (c0 :: c1 :: c2 :: r) 3 = true
          · rw [begin_3 f1 f2 hA, n3]
            rw [ok3] at hA
            simp [nextS, hs, hA, cpLen_iff]; rw [if_neg (by omega), if_neg (by omega)]
          · rw [begin_0 f1 f2 (by simpa using hA) f4]
            rw [ok3] at hA
            simp [nextS, hs, cpLen_iff]; omega
      · have f3 := no3 c0 r h3
        by_cases h4 : c0.toNat / 8 = 30
        · have hs : sizedS c0.toNat = (3, 240, 4) := by simp [sizedS, h1, h2, h3, h4]
          rcases r with _ | ⟨c1, _ | ⟨c2, _ | ⟨c3, r⟩⟩⟩
          · rw [begin_0 f1 f2 f3 (okShort _ _ (by simp))]; simp [nextS, hs]
          · rw [begin_0 f1 f2 f3 (okShort _ _ (by simp))]; simp [nextS, hs]
          · rw [begin_0 f1 f2 f3 (okShort _ _ (by simp))]; simp [nextS, hs]
          · have b1 := c1.toNat_lt
            have b2 := c2.toNat_lt
            have b3 := c3.toNat_lt
            have n4 : cpNum (c0 :: c1 :: c2 :: c3 :: r) 4 = ((c0.toNat % 8 * 64 + c1.toNat % 64) * 64 + c2.toNat % 64) * 64 + c3.toNat % 64 := by simp [cpNum]
            by_cases hA : cpOk (c0 :: c1 :: c2 :: c3 :: r) 4 = true
            · rw [begin_4 f1 f2 f3 hA, n4]
              rw [ok4] at hA
              simp [nextS, hs, hA, cpLen_iff]
            · rw [begin_0 f1 f2 f3 (by simpa using hA)]
              rw [ok4] at hA
              simp [nextS, hs, cpLen_iff]; omega
        · have f4 := no4 c0 r h4
          have hs : sizedS c0.toNat = (0, 0, 0) := by simp [sizedS, h1, h2, h3, h4]
          rw [begin_0 f1 f2 f3 f4]; simp [nextS, hs]
theorem cpBytes_le4 (p : Nat) : (cpBytes p).length ≤ 4 := by
  unfold cpBytes; repeat' split
  all_goals simp
theorem cpBegin_le (l : List UInt8) : (cpBegin l).2 ≤ 4 := by
  unfold cpBegin; repeat' split
  all_goals simp
theorem cpBegin_len (l : List UInt8) : (cpBegin l).2 ≤ l.length := by
  unfold cpBegin
  repeat' split
  all_goals first
    | (rename_i h; have := ((cpOk_iff _ _).1 h).1; simpa using this)
    | simp
end Go.Proofs.YtoejdhabpajhlaaDoor

/- plain definitions and laws: quoted strings -/
namespace Go.Proofs.YtoejdhabpajhlaaDoor
set_option linter.unusedVariables false
set_option linter.unusedSimpArgs false

/-- a hex digit's value -/
def hexv (c : UInt8) : Option Nat :=
  if 48 ≤ c.toNat ∧ c.toNat ≤ 57 then some (c.toNat - 48) else if 97 ≤ c.toNat ∧ c.toNat ≤ 102 then some (c.toNat - 97 + 10)
  else if 65 ≤ c.toNat ∧ c.toNat ≤ 70 then some (c.toNat - 65 + 10) else none
def hexs : List UInt8 → Nat → Option Nat
  | [], n => some n
  | c :: r, n => match hexv c with | some h => hexs r (n * 16 + h) | none => none
/-- the unit that an escape \uXXXX tells -/
def unitO (l : List UInt8) (a : Nat) : Option Nat :=
  if l.length < a + 6 ∨ l[a]? ≠ some 92 ∨ l[a + 1]? ≠ some 117 then none else hexs ((l.drop (a + 2)).take 4) 0
def optI : Option Nat → Int | some n => n | none => -1
def unitI (l : List UInt8) (a : Nat) : Int := optI (unitO l a)
/-- the letter behind a backslash -/
def letterS (c : Nat) : Option Nat :=
  if c = 34 then some 34 else if c = 92 then some 92 else if c = 47 then some 47 else if c = 98 then some 8
  else if c = 102 then some 12 else if c = 110 then some 10 else if c = 114 then some 13 else if c = 116 then some 9 else none
def escS (l : List UInt8) (a : Nat) : Int × Int × Int :=
  match unitO l a with
  | some u =>
    if 0 < cpSize u then (u, a + 6, 0) else if u < 56320 then
      match unitO l (a + 6) with
      | some v => if 56320 ≤ v ∧ v ≤ 57343 then (65536 + (u - 55296) * 1024 + v - 56320, a + 12, 0) else (0, 0, 7)
      | none => (0, 0, 7)
    else (0, 0, 7)
  | none =>
    match l[a + 1]? with
    | some c => match letterS c.toNat with | some x => (x, a + 2, 0) | none => (0, 0, 7)
    | none => (0, 0, 7)
theorem hexv_lt {c : UInt8} {h : Nat} (e : hexv c = some h) : h < 16 := by
  unfold hexv at e
  repeat' split at e
  all_goals first | (cases e; omega) | cases e
theorem hexs_lt : ∀ {r : List UInt8} {n m : Nat}, hexs r n = some m → m < (n + 1) * 16 ^ r.length
  | [], n, m, h => by simp only [hexs, Option.some.injEq] at h; simp; omega
  | c :: r, n, m, h => by
    unfold hexs at h
    cases e : hexv c with
    | none => rw [e] at h; cases h
    | some d =>
      rw [e] at h
      have h1 := hexs_lt h
      have h2 := hexv_lt e
      have h3 : (n * 16 + d + 1) * 16 ^ r.length ≤ (n + 1) * 16 * 16 ^ r.length := Nat.mul_le_mul_right _ (by omega)
      rw [List.length_cons, Nat.pow_succ, Nat.mul_comm (16 ^ _), ← Nat.mul_assoc]
      omega
theorem unitO_lt {l : List UInt8} {a u : Nat} (h : unitO l a = some u) : u < 65536 ∧ a + 6 ≤ l.length := by
  unfold unitO at h
  split at h
  · cases h
  · rename_i hc
    have h1 := hexs_lt h
    have h2 : ((l.drop (a + 2)).take 4).length ≤ 4 := by simp; omega
    have h3 : 16 ^ ((l.drop (a + 2)).take 4).length ≤ 16 ^ 4 := Nat.pow_le_pow_right (by omega) h2
    constructor
    · omega
    · omega
end Go.Proofs.YtoejdhabpajhlaaDoor

/- plain definitions and laws: numerals -/
namespace Go.Proofs.YtoejdhabpajhlaaDoor
set_option linter.unusedVariables false
set_option linter.unusedSimpArgs false

/-- is the byte at a place one of some? -/
def seesB (l : List UInt8) (p : Nat) (s : List UInt8) : Bool := match l[p]? with | some c => s.contains c | none => false
def isDig (c : UInt8) : Bool := decide (48 ≤ c.toNat ∧ c.toNat ≤ 57)
/-- the digits that stand at a place -/
def digs (l : List UInt8) (p : Nat) : List UInt8 := (l.drop p).takeWhile isDig
def digEnd (l : List UInt8) (p : Nat) : Nat := p + (digs l p).length
def dval (c : UInt8) : Nat := c.toNat - 48
def digNum (ds : List UInt8) : Nat := ds.foldl (fun n c => 10 * n + dval c) 0
theorem digs_nil {l : List UInt8} {p : Nat} (h : seesB l p [48, 49, 50, 51, 52, 53, 54, 55, 56, 57] = false) : digs l p = [] := by
  unfold digs seesB at *
  cases hl : l[p]? with
  | none =>
    have := List.getElem?_eq_none_iff.1 hl
    rw [List.drop_eq_nil_of_le this]; rfl
  | some c =>
    rw [hl] at h
    have hd : l.drop p = c :: l.drop (p + 1) := by
      obtain ⟨hlt, e⟩ := List.getElem?_eq_some_iff.1 hl
      rw [List.drop_eq_getElem_cons hlt, e]
    rw [hd, List.takeWhile_cons]
    have : isDig c = false := by
      simp only [isDig, decide_eq_false_iff_not]
      simp only [List.contains_eq_mem, List.mem_cons, List.not_mem_nil, decide_eq_false_iff_not] at h
      intro hc
      apply h
      simp only [← UInt8.toNat_inj]
      have h2 : c.toNat = 48 ∨ c.toNat = 49 ∨ c.toNat = 50 ∨ c.toNat = 51 ∨ c.toNat = 52 ∨ c.toNat = 53 ∨ c.toNat = 54 ∨ c.toNat = 55 ∨ c.toNat = 56 ∨ c.toNat = 57 := by omega
      simpa using h2
    rw [this]; rfl
theorem digs_cons {l : List UInt8} {p : Nat} (h : seesB l p [48, 49, 50, 51, 52, 53, 54, 55, 56, 57] = true) : ∃ c, l[p]? = some c ∧ 48 ≤ c.toNat ∧ c.toNat ≤ 57 ∧ digs l p = c :: digs l (p + 1) := by
  unfold digs seesB at *
  cases hl : l[p]? with
  | none => rw [hl] at h; simp at h
  | some c =>
    rw [hl] at h
    have hd : l.drop p = c :: l.drop (p + 1) := by
      obtain ⟨hlt, e⟩ := List.getElem?_eq_some_iff.1 hl
      rw [List.drop_eq_getElem_cons hlt, e]
    have hc : 48 ≤ c.toNat ∧ c.toNat ≤ 57 := by
      simp only [List.contains_eq_mem, List.mem_cons, List.not_mem_nil, decide_eq_true_eq, or_false] at h
      simp only [← UInt8.toNat_inj] at h
      simp at h
      omega
    refine ⟨c, rfl, hc.1, hc.2, ?_⟩
    rw [hd, List.takeWhile_cons]
    have : isDig c = true := by simp only [isDig, decide_eq_true_eq]; exact hc
    rw [this]; rfl
theorem digs_le (l : List UInt8) (p : Nat) : (digs l p).length ≤ l.length - p := by
  unfold digs
  have := (List.takeWhile_sublist isDig (l := l.drop p)).length_le
  simpa using this
end Go.Proofs.YtoejdhabpajhlaaDoor

/- Plain: blanks of a row of bytes, and the place behind them. -/
namespace Go.Proofs.YtoejdhabpajhlaaDoor
set_option linter.unusedVariables false
set_option linter.unusedSimpArgs false

def isBlankB (c : UInt8) : Bool := decide (c.toNat = 9 ∨ c.toNat = 10 ∨ c.toNat = 13 ∨ c.toNat = 32)
/-- the place behind the blanks -/
def skipB (l : List UInt8) (p : Nat) : Nat := p + ((l.drop p).takeWhile isBlankB).length
theorem skipB_step {l : List UInt8} {p : Nat} {c : UInt8} (h : l[p]? = some c) (hb : isBlankB c = true) : skipB l p = skipB l (p + 1) := by
  obtain ⟨hlt, e⟩ := List.getElem?_eq_some_iff.1 h
  unfold skipB
  rw [List.drop_eq_getElem_cons hlt, e, List.takeWhile_cons, hb]
  simp; omega
theorem skipB_stop {l : List UInt8} {p : Nat} {c : UInt8} (h : l[p]? = some c) (hb : isBlankB c = false) : skipB l p = p := by
  obtain ⟨hlt, e⟩ := List.getElem?_eq_some_iff.1 h
  unfold skipB
  rw [List.drop_eq_getElem_cons hlt, e, List.takeWhile_cons, hb]
  simp
theorem skipB_end {l : List UInt8} {p : Nat} (h : l.length ≤ p) : skipB l p = p := by
  unfold skipB
  rw [List.drop_eq_nil_of_le h]; simp
theorem skipB_ge (l : List UInt8) (p : Nat) : p ≤ skipB l p := Nat.le_add_right _ _
theorem skipB_le {l : List UInt8} {p : Nat} (h : p ≤ l.length) : skipB l p ≤ l.length := by
  unfold skipB
  have := (List.takeWhile_sublist isBlankB (l := l.drop p)).length_le
  simp at this
  omega
theorem skipB_nbl {l : List UInt8} {p : Nat} {c : UInt8} (h : l[skipB l p]? = some c) : isBlankB c = false := by
  have hd : (l.drop p)[((l.drop p).takeWhile isBlankB).length]? = some c := by rw [List.getElem?_drop]; exact h
  generalize l.drop p = u at hd
  clear h
  induction u with
  | nil => simp at hd
  | cons x r ih =>
    rw [List.takeWhile_cons] at hd
    by_cases hx : isBlankB x = true
    · rw [if_pos hx] at hd; exact ih (by simpa using hd)
    · rw [if_neg hx] at hd
      have : x = c := by simpa using hd
      rw [← this]; simpa using hx
theorem skipB_idem {l : List UInt8} {p : Nat} : skipB l (skipB l p) = skipB l p := by
  by_cases h : skipB l p < l.length
  · exact skipB_stop (List.getElem?_eq_getElem h) (skipB_nbl (List.getElem?_eq_getElem h))
  · exact skipB_end (by omega)
end Go.Proofs.YtoejdhabpajhlaaDoor
