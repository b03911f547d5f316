import Derived.Test.YtoejdhabpajhlaaGreatDoorJsonP
import Derived.Test.YtoejdhabpajhlaaGreatDoorGoodP
import Derived.Laws.RangeAny
import Derived.Lib.OthersKept
import Derived.KernelRfl
/- Plain: digits that are gathered. -/
namespace Go.Proofs.YtoejdhabpajhlaaGreatDoor
set_option linter.unusedVariables false
set_option linter.unusedSimpArgs false
open Go.RowKit
theorem dNum_snoc (ds : List UInt8) (c : UInt8) : digNum (ds ++ [c]) = 10 * digNum ds + dval c := by simp [digNum]
theorem grow_spec : ∀ (ds pre : List UInt8) (s : NSt), (∀ c ∈ ds, isDig c = true) → ((s.over = true ∧ 18446744073709551615 < digNum pre) ∨ (s.over = false ∧ s.size = digNum pre ∧ digNum pre ≤ 18446744073709551615)) →
    (((growAll ds s).over = true ∧ 18446744073709551615 < digNum (pre ++ ds)) ∨ ((growAll ds s).over = false ∧ (growAll ds s).size = digNum (pre ++ ds) ∧ digNum (pre ++ ds) ≤ 18446744073709551615))
  | [], pre, s, _, h => by simpa [growAll] using h
  | c :: ds, pre, s, hd, h => by
    have hc : 48 ≤ c.toNat ∧ c.toNat ≤ 57 := of_decide_eq_true (hd c List.mem_cons_self)
    have ih := grow_spec ds (pre ++ [c]) (growS (dval c) s) (fun x hx => hd x (List.mem_cons_of_mem _ hx))
    rw [List.append_assoc, List.singleton_append] at ih
    refine ih ?_
    rw [dNum_snoc]
    have hv : dval c ≤ 9 := by unfold dval; omega
    unfold growS
    simp only
    rcases h with ⟨h1, h2⟩ | ⟨h1, h2, h3⟩
    · left
      rw [h1]
      exact ⟨rfl, by omega⟩
    · rw [h1, h2]
      by_cases ho : (18446744073709551615 - dval c) / 10 < digNum pre
      · left
        rw [decide_eq_true ho]
        exact ⟨rfl, by omega⟩
      · right
        rw [decide_eq_false ho]
        refine ⟨rfl, Nat.mod_eq_of_lt (by omega), by omega⟩
theorem tw_all {f : UInt8 → Bool} : ∀ {l : List UInt8} {c : UInt8}, c ∈ l.takeWhile f → f c = true
  | [], c, h => by cases h
  | x :: r, c, h => by
    rw [List.takeWhile_cons] at h
    split at h
    · rename_i hx
      rcases List.mem_cons.1 h with rfl | h
      · exact hx
      · exact tw_all h
    · cases h
theorem digs_all (l : List UInt8) (p : Nat) : ∀ c ∈ digs l p, isDig c = true := fun c hc => tw_all hc
theorem digs_take (l : List UInt8) (p : Nat) : (l.drop p).take (digs l p).length = digs l p := by
  unfold digs
  exact (List.prefix_iff_eq_take.1 (List.takeWhile_prefix isDig)).symm
theorem u8_dig (c : UInt8) : [48, 49, 50, 51, 52, 53, 54, 55, 56, 57].contains c = isDig c := by
  have key : (List.range 256).all (fun n => ([48, 49, 50, 51, 52, 53, 54, 55, 56, 57] : List UInt8).contains (UInt8.ofNat n) == isDig (UInt8.ofNat n)) = true := by decide +kernel
  have := List.all_eq_true.1 key c.toNat (List.mem_range.2 c.toNat_lt)
  simpa using this
theorem sees_none {l : List UInt8} {p : Nat} {c : UInt8} (h : l[p]? = some c) (s : List UInt8) : seesB l p s = s.contains c := by unfold seesB; rw [h]
theorem growAll_part (ds : List UInt8) (s : NSt) : (growAll ds s).part = s.part ∧ (growAll ds s).minus = s.minus := ⟨(growAll_keep ds s).2.2, (growAll_keep ds s).2.1⟩

end Go.Proofs.YtoejdhabpajhlaaGreatDoor

/- Plain: the canonical text of a value: numerals, quoted texts, lists and objects. -/
namespace Go.Proofs.YtoejdhabpajhlaaGreatDoor
set_option linter.unusedVariables false
set_option linter.unusedSimpArgs false
open Go.RowKit

/-- the digits of a number -/
def natF : Nat → Nat → List UInt8
  | 0, _ => []
  | f + 1, n => if n < 10 then [UInt8.ofNat (48 + n)] else natF f (n / 10) ++ [UInt8.ofNat (48 + n % 10)]
def natD (n : Nat) : List UInt8 := natF (n + 1) n
theorem natF_same : ∀ (f g n : Nat), n < f → n < g → natF f n = natF g n
  | 0, _, _, h, _ => by omega
  | _ + 1, 0, _, _, h => by omega
  | f + 1, g + 1, n, h, h' => by
    unfold natF
    split
    · rfl
    · rw [natF_same f g (n / 10) (by omega) (by omega)]
theorem natD_small {n : Nat} (h : n < 10) : natD n = [UInt8.ofNat (48 + n)] := by unfold natD natF; rw [if_pos h]
theorem natD_step {n : Nat} (h : 10 ≤ n) : natD n = natD (n / 10) ++ [UInt8.ofNat (48 + n % 10)] := by
  unfold natD
  rw [natF, if_neg (by omega), natF_same n (n / 10 + 1) (n / 10) (by omega) (by omega)]
/-- the numeral of a number -/
def numT (n : Int) : List UInt8 := if n < 0 then 45 :: natD n.natAbs else natD n.natAbs
/-- the letter that is written for a code point behind a backslash -/
def escOf (c : Nat) : Option Nat :=
  if c = 34 then some 34 else if c = 92 then some 92 else if c = 8 then some 98 else if c = 12 then some 102 else if c = 10 then some 110 else if c = 13 then some 114 else if c = 9 then some 116 else none
def hexD (n : Nat) : Nat := if n < 10 then 48 + n else 87 + n
/-- what is written for a code point -/
def qSignT (c : Nat) : List UInt8 :=
  match escOf c with
  | some s => [92, UInt8.ofNat s]
  | none => if c < 32 then [92, 117, 48, 48, UInt8.ofNat (48 + c / 16), UInt8.ofNat (hexD (c % 16))] else cpBytes c
/-- the code points of a row of bytes -/
def cpsF : Nat → List UInt8 → List Nat
  | _, [] => []
  | 0, _ :: _ => []
  | f + 1, c :: r => if (cpBegin (c :: r)).2 = 0 then [] else (cpBegin (c :: r)).1 :: cpsF f ((c :: r).drop (cpBegin (c :: r)).2)
def cpsOf (l : List UInt8) : List Nat := cpsF l.length l
/-- the canonical quoted text -/
def quoT (l : List UInt8) : List UInt8 := 34 :: (cpsOf l).flatMap qSignT ++ [34]
mutual
def canJ : JV → List UInt8
  | .mk k n s kids keys =>
    if k = 1 then nullT else if k = 2 then (if n = 1 then trueT else falseT) else if k = 3 then numT n else if k = 4 then quoT s
    else if k = 6 then 123 :: canL true true kids keys ++ [125] else 91 :: canL false true kids [] ++ [93]
def canL : Bool → Bool → List JV → List (List UInt8) → List UInt8
  | _, _, [], _ => []
  | o, f, x :: r, keys => (if f then [] else [44]) ++ ((if o then quoT (keys.headD []) ++ [58] else []) ++ (canJ x ++ canL o false r keys.tail))
end

theorem cpsF_same : ∀ (f g : Nat) (l : List UInt8), l.length ≤ f → l.length ≤ g → cpsF f l = cpsF g l
  | f, g, [], _, _ => by cases f <;> cases g <;> rfl
  | 0, _, _ :: _, h, _ => by simp at h
  | _ + 1, 0, _ :: _, _, h => by simp at h
  | f + 1, g + 1, c :: r, h, h' => by
    unfold cpsF
    split
    · rfl
    · rename_i hn
      rw [cpsF_same f g _ ?_ ?_] <;> · rw [List.length_drop, List.length_cons] at *; omega
theorem cpsOf_nil : cpsOf [] = [] := rfl
theorem cpsOf_step {l : List UInt8} (h : l ≠ []) : cpsOf l = if (cpBegin l).2 = 0 then [] else (cpBegin l).1 :: cpsOf (l.drop (cpBegin l).2) := by
  cases l with
  | nil => exact absurd rfl h
  | cons c r =>
    show cpsF (r.length + 1) (c :: r) = _
    unfold cpsF
    split
    · rfl
    · rename_i hn
      rw [cpsOf, cpsF_same _ _ _ ?_ (Nat.le_refl _)]; rw [List.length_drop, List.length_cons]; omega
theorem cpsOf_cps : ∀ {cs : List Nat}, (∀ c ∈ cs, isCp (c : Int) = true) → cpsOf (cs.flatMap cpBytes) = cs
  | [], _ => rfl
  | c :: r, h => by
    obtain ⟨h1, h2, h3⟩ := cpBegin_bytes c (r.flatMap cpBytes) (h c List.mem_cons_self)
    rw [List.flatMap_cons, cpsOf_step (by intro e; have h := congrArg List.length e; rw [List.length_append] at h; simp only [List.length_nil] at h; omega), h1, if_neg (by show ¬ (cpBytes c).length = 0; omega)]
    show c :: cpsOf ((cpBytes c ++ _).drop (cpBytes c).length) = _
    rw [List.drop_left, cpsOf_cps (fun x hx => h x (List.mem_cons_of_mem _ hx))]
theorem cpOk_what {l : List UInt8} {n : Nat} (h : cpOk l n = true) : isCp (cpNum l n : Int) = true ∧ l.take n = cpBytes (cpNum l n) := by
  have h1 := (cpOk_iff _ _).1 h
  exact ⟨(isCp_iff _).2 h1.2.1, h1.2.2.symm⟩
/-- what begins a row is a code point, and the row begins with its bytes -/
theorem cpBegin_what {l : List UInt8} (h : (cpBegin l).2 ≠ 0) : isCp ((cpBegin l).1 : Int) = true ∧ l.take (cpBegin l).2 = cpBytes (cpBegin l).1 := by
  by_cases h1 : cpOk l 1 = true
  · rw [begin_1 h1]; exact cpOk_what h1
  · have f1 : cpOk l 1 = false := by simpa using h1
    by_cases h2 : cpOk l 2 = true
    · rw [begin_2 f1 h2]; exact cpOk_what h2
    · have f2 : cpOk l 2 = false := by simpa using h2
      by_cases h3 : cpOk l 3 = true
      · rw [begin_3 f1 f2 h3]; exact cpOk_what h3
      · have f3 : cpOk l 3 = false := by simpa using h3
        by_cases h4 : cpOk l 4 = true
        · rw [begin_4 f1 f2 f3 h4]; exact cpOk_what h4
        · rw [begin_0 f1 f2 f3 (by simpa using h4)] at h; exact absurd rfl h
theorem txtOk_is : ∀ (f : Nat) (l : List UInt8), l.length ≤ f → txtOk l = true → (∀ c ∈ cpsOf l, isCp (c : Int) = true) ∧ l = (cpsOf l).flatMap cpBytes
  | _, [], _, _ => ⟨by simp [cpsOf_nil], rfl⟩
  | 0, _ :: _, h, _ => by simp at h
  | f + 1, c :: r, h, ht => by
    have hne : c :: r ≠ [] := by simp
    rw [txtOk_step hne] at ht
    by_cases h0 : (cpBegin (c :: r)).2 = 0
    · rw [if_pos h0] at ht; cases ht
    · rw [if_neg h0] at ht
      obtain ⟨h1, h2⟩ := txtOk_is f _ (by rw [List.length_drop, List.length_cons]; rw [List.length_cons] at h; omega) ht
      obtain ⟨k1, k2⟩ := cpBegin_what h0
      rw [cpsOf_step hne, if_neg h0]
      refine ⟨fun x hx => ?_, ?_⟩
      · rcases List.mem_cons.1 hx with rfl | hx
        · exact k1
        · exact h1 x hx
      · rw [List.flatMap_cons, ← k2, ← h2, List.take_append_drop]
theorem txtOk_cpsOf {l : List UInt8} (h : txtOk l = true) : (∀ c ∈ cpsOf l, isCp (c : Int) = true) ∧ l = (cpsOf l).flatMap cpBytes := txtOk_is _ l (Nat.le_refl _) h
end Go.Proofs.YtoejdhabpajhlaaGreatDoor

/- Plain: how the language decodes and encodes a code point. -/
namespace Go.Proofs.YtoejdhabpajhlaaGreatDoor
set_option linter.unusedVariables false
set_option linter.unusedSimpArgs false
open Go.RowKit

theorem ba_get {s : ByteArray} {p k : Nat} {b : UInt8} {u : List UInt8} (h : s.data.toList.drop p = u) (hb : u[k]? = some b) : s.get! (p + k) = b ∧ p + k < s.size := by
  have h1 : s.data.toList[p + k]? = some b := by rw [← hb, ← h, List.getElem?_drop]
  obtain ⟨hlt, he⟩ := List.getElem?_eq_some_iff.1 h1
  have hs : p + k < s.size := by rw [Array.length_toList] at hlt; exact hlt
  refine ⟨?_, hs⟩
  show s.get! (p + k) = b
  have : s.get! (p + k) = s[p + k] := by
    simp [ByteArray.get!, getElem!_pos, hs]
    rfl
  rw [this, ← he]
  rfl
theorem decode_cp {s : ByteArray} {p c : Nat} {r : List UInt8} (hc : isCp (c : Int) = true) (h : s.data.toList.drop p = cpBytes c ++ r) : Utf8.decode s p = (c, (cpBytes c).length) := by
  have hle := (isCp_iff c).1 hc
  unfold cpBytes at h ⊢
  by_cases h1 : c < 128
  · rw [if_pos h1] at h ⊢
    obtain ⟨g0, s0⟩ := ba_get (k := 0) h (by rfl)
    have e0 := oN8 c (by omega)
    unfold Utf8.decode
    simp only [g0, e0]
    rw [if_pos h1]; rfl
  rw [if_neg h1] at h ⊢
  by_cases h2 : c < 2048
  · rw [if_pos h2] at h ⊢
    obtain ⟨g0, s0⟩ := ba_get (k := 0) h (by rfl)
    obtain ⟨g1, s1⟩ := ba_get (k := 1) h (by rfl)
    have e0 := oN8 (192 + c / 64) (by omega)
    have e1 := oN8 (128 + c % 64) (by omega)
    unfold Utf8.decode
    simp only [g0, g1, e0, e1]
    rw [if_neg (by omega), if_pos (by simp [s1]; omega), if_pos (by omega)]
    simp; omega
  rw [if_neg h2] at h ⊢
  by_cases h3 : c < 65536
  · rw [if_pos h3] at h ⊢
    obtain ⟨g0, s0⟩ := ba_get (k := 0) h (by rfl)
    obtain ⟨g1, s1⟩ := ba_get (k := 1) h (by rfl)
    obtain ⟨g2, s2⟩ := ba_get (k := 2) h (by rfl)
    have e0 := oN8 (224 + c / 4096) (by omega)
    have e1 := oN8 (128 + c / 64 % 64) (by omega)
    have e2 := oN8 (128 + c % 64) (by omega)
    have hn : (224 + c / 4096) % 16 * 4096 + (128 + c / 64 % 64) % 64 * 64 + (128 + c % 64) % 64 = c := by omega
    unfold Utf8.decode
    simp only [g0, g1, g2, e0, e1, e2]
    rw [if_neg (by omega), if_neg (by simp; omega), if_pos (by simp [s1, s2]; omega), hn, if_pos (by simp [Utf8.valid]; omega)]
    simp
  · rw [if_neg h3] at h ⊢
    obtain ⟨g0, s0⟩ := ba_get (k := 0) h (by rfl)
    obtain ⟨g1, s1⟩ := ba_get (k := 1) h (by rfl)
    obtain ⟨g2, s2⟩ := ba_get (k := 2) h (by rfl)
    obtain ⟨g3, s3⟩ := ba_get (k := 3) h (by rfl)
    have e0 := oN8 (240 + c / 262144) (by omega)
    have e1 := oN8 (128 + c / 4096 % 64) (by omega)
    have e2 := oN8 (128 + c / 64 % 64) (by omega)
    have e3 := oN8 (128 + c % 64) (by omega)
    have hn : (240 + c / 262144) % 8 * 262144 + (128 + c / 4096 % 64) % 64 * 4096 + (128 + c / 64 % 64) % 64 * 64 + (128 + c % 64) % 64 = c := by omega
    unfold Utf8.decode
    simp only [g0, g1, g2, g3, e0, e1, e2, e3]
    rw [if_neg (by omega), if_neg (by simp; omega), if_neg (by simp; omega), if_pos (by simp [s1, s2, s3]; omega), hn, if_pos (by simp [Utf8.valid]; omega)]
    simp
theorem encode_cp {c : Nat} (hc : isCp (c : Int) = true) : Utf8.encode (c : Int) = ⟨(cpBytes c).toArray⟩ := by
  have hle := (isCp_iff c).1 hc
  have hv : Utf8.valid (c : Int) = true := by simp [Utf8.valid]; omega
  unfold Utf8.encode cpBytes
  simp only [hv, if_true, Int.toNat_natCast]
  by_cases h1 : c < 128
  · rw [if_pos h1, if_pos h1]
  rw [if_neg h1, if_neg h1]
  by_cases h2 : c < 2048
  · rw [if_pos h2, if_pos h2]
  rw [if_neg h2, if_neg h2]
  by_cases h3 : c < 65536
  · rw [if_pos h3, if_pos h3]
  · rw [if_neg h3, if_neg h3]
end Go.Proofs.YtoejdhabpajhlaaGreatDoor

/- Plain: what is printed is read back. -/
namespace Go.Proofs.YtoejdhabpajhlaaGreatDoor
set_option linter.unusedVariables false
set_option linter.unusedSimpArgs false
open Go.RowKit

variable {l : List UInt8}
theorem dr_len {p : Nat} {u : List UInt8} (h : l.drop p = u) (hp : p ≤ l.length) : l.length = p + u.length := by
  have := congrArg List.length h; rw [List.length_drop] at this; omega
theorem dr_lt {p : Nat} {u : List UInt8} (h : l.drop p = u) (hu : u ≠ []) : p < l.length := by
  rcases Nat.lt_or_ge p l.length with h1 | h1
  · exact h1
  · rw [List.drop_eq_nil_of_le h1] at h; exact absurd h.symm hu
theorem dr_get {p : Nat} {u : List UInt8} (h : l.drop p = u) (i : Nat) : l[p + i]? = u[i]? := by rw [← h, List.getElem?_drop]
theorem dr_get0 {p : Nat} {c : UInt8} {u : List UInt8} (h : l.drop p = c :: u) : l[p]? = some c := by have := dr_get h 0; simpa using this
theorem dr_dr {p : Nat} {u v : List UInt8} (h : l.drop p = u ++ v) : l.drop (p + u.length) = v := by rw [← List.drop_drop, h, List.drop_left]
theorem dr_one {p : Nat} {c : UInt8} {v : List UInt8} (h : l.drop p = c :: v) : l.drop (p + 1) = v := dr_dr (u := [c]) h

theorem isCp_le {c : Nat} (h : isCp (c : Int) = true) : c ≤ 1114111 ∧ ¬ (55296 ≤ c ∧ c ≤ 57343) := (isCp_iff c).1 h
theorem cp_size {c : Nat} (h : isCp (c : Int) = true) : 0 < cpSize (c : Int) := by
  have h1 := isCp_le h
  have := (cpLen_iff c (cpLen c)).1 rfl
  have h3 : cpSize (c : Int) = (cpLen c : Int) := (cpSize_int c _).2 rfl
  omega
theorem escOf_some {c s : Nat} (h : escOf c = some s) : (s = 34 ∨ s = 92 ∨ s = 98 ∨ s = 102 ∨ s = 110 ∨ s = 114 ∨ s = 116) ∧ letterS s = some c ∧ c < 128 := by
  unfold escOf at h
  repeat' split at h
  all_goals first
    | (simp only [Option.some.injEq] at h; subst h; subst_vars; exact ⟨by decide, by decide, by decide⟩)
    | cases h
theorem escOf_none {c : Nat} (h : escOf c = none) : c ≠ 34 ∧ c ≠ 92 := by
  unfold escOf at h
  refine ⟨fun e => ?_, fun e => ?_⟩ <;> · subst e; simp at h
theorem hex_all : ∀ c, c < 32 → hexs [48, 48, UInt8.ofNat (48 + c / 16), UInt8.ofNat (hexD (c % 16))] 0 = some c := by decide +kernel
/-- what is written for a code point is read as it -/
theorem qs_sign {c p : Nat} {r : List UInt8} (hc : isCp (c : Int) = true) (h : l.drop p = qSignT c ++ r) : qsS l p = ((c : Int), ((p + (qSignT c).length : Nat) : Int), 0) ∧ 1 ≤ (qSignT c).length := by
  unfold qSignT at h ⊢
  cases he : escOf c with
  | some s =>
    rw [he] at h
    simp only [List.cons_append, List.nil_append] at h ⊢
    obtain ⟨h1, h2, h3⟩ := escOf_some he
    have g0 : l[p]? = some 92 := dr_get0 h
    have g1 : l[p + 1]? = some (UInt8.ofNat s) := by have := dr_get h 1; simpa using this
    have hs : (UInt8.ofNat s).toNat = s := oN8 s (by omega)
    refine ⟨?_, by simp⟩
    unfold qsS
    rw [g0]
    simp only
    rw [if_pos (by decide)]
    unfold escS
    have hu : unitO l p = none := by
      unfold unitO
      rw [if_pos (.inr (.inr (by
        rw [g1]
        intro e
        have := congrArg (fun o => (o.getD 0).toNat) e
        simp only [Option.getD_some, hs] at this
        have : s = 117 := this
        omega)))]
    rw [hu, g1]
    simp only
    rw [hs, h2]
    simp
  | none =>
    rw [he] at h
    simp only at h ⊢
    obtain ⟨n1, n2⟩ := escOf_none he
    by_cases h32 : c < 32
    · rw [if_pos h32] at h ⊢
      refine ⟨?_, by simp⟩
      simp only [List.cons_append, List.nil_append] at h
      have g0 : l[p]? = some 92 := dr_get0 h
      have g1 : l[p + 1]? = some 117 := by have := dr_get h 1; simpa using this
      have hp := dr_lt h (by simp)
      have hlen := dr_len h (by omega)
      simp only [List.length_cons] at hlen
      unfold qsS
      rw [g0]
      simp only
      rw [if_pos (by decide)]
      unfold escS
      have hu : unitO l p = some c := by
        unfold unitO
        rw [if_neg (by
          rintro (h1 | h1 | h1)
          · omega
          · exact h1 g0
          · exact h1 g1)]
        have hd : l.drop (p + 2) = 48 :: 48 :: UInt8.ofNat (48 + c / 16) :: UInt8.ofNat (hexD (c % 16)) :: r := by
          rw [← List.drop_drop, h]; rfl
        rw [hd]
        exact hex_all c h32
      rw [hu]
      simp only
      rw [if_pos (cp_size hc)]
      simp
    · rw [if_neg h32] at h ⊢
      obtain ⟨k1, k2, k3⟩ := cpBegin_bytes c r hc
      refine ⟨?_, k2⟩
      have hne : cpBytes c ++ r ≠ [] := by intro e; have h := congrArg List.length e; rw [List.length_append] at h; simp only [List.length_nil] at h; omega
      have hp := dr_lt h hne
      obtain ⟨b, u, hb⟩ := List.exists_cons_of_ne_nil hne
      have g0 : l[p]? = some b := by rw [hb] at h; exact dr_get0 h
      have hb0 : b.toNat ≠ 92 ∧ ¬ (b.toNat < 32 ∨ b.toNat = 34) := by
        have hle := isCp_le hc
        unfold cpBytes at hb
        split at hb
        · simp only [List.cons_append, List.cons.injEq] at hb
          have := oN8 c (by omega)
          rw [← hb.1, this]; omega
        split at hb
        · simp only [List.cons_append, List.cons.injEq] at hb
          have := oN8 (192 + c / 64) (by omega)
          rw [← hb.1, this]; omega
        split at hb
        · simp only [List.cons_append, List.cons.injEq] at hb
          have := oN8 (224 + c / 4096) (by omega)
          rw [← hb.1, this]; omega
        · simp only [List.cons_append, List.cons.injEq] at hb
          have := oN8 (240 + c / 262144) (by omega)
          rw [← hb.1, this]; omega
      unfold qsS
      rw [g0]
      simp only
      rw [if_neg hb0.1, if_neg hb0.2]
      unfold nextR
      rw [if_neg (by omega), if_neg (by omega), Int.toNat_natCast, h, k1]
      simp only
      rw [if_neg (by omega)]
      simp
theorem qs_quote {p : Nat} (h : l[p]? = some 34) : (qsS l p).2.2 ≠ 0 := by
  unfold qsS; rw [h]
  simp only
  rw [if_neg (by decide), if_pos (.inr (by decide))]; decide
theorem signs_back : ∀ (cs : List Nat) (p : Nat) (r : List UInt8), (∀ c ∈ cs, isCp (c : Int) = true) → l.drop p = cs.flatMap qSignT ++ 34 :: r →
    qBytes (signsL l p) = cs.flatMap cpBytes ∧ qEnd p (signsL l p) = p + (cs.flatMap qSignT).length
  | [], p, r, _, h => by
    have g0 : l[p]? = some 34 := dr_get0 h
    rw [signsL_nil (fun _ => qs_quote g0)]
    exact ⟨rfl, rfl⟩
  | c :: cs, p, r, hc, h => by
    rw [List.flatMap_cons, List.append_assoc] at h
    obtain ⟨h1, h2⟩ := qs_sign (hc c List.mem_cons_self) h
    have hne : qSignT c ++ (cs.flatMap qSignT ++ 34 :: r) ≠ [] := by intro e; have h := congrArg List.length e; rw [List.length_append] at h; simp only [List.length_nil] at h; omega
    have hp := dr_lt h hne
    have h3 := dr_dr h
    obtain ⟨i1, i2⟩ := signs_back cs _ r (fun x hx => hc x (List.mem_cons_of_mem _ hx)) h3
    rw [signsL_cons h1 hp, qEnd_cons]
    refine ⟨?_, ?_⟩
    · unfold qBytes at i1 ⊢
      rw [List.flatMap_cons, i1, List.flatMap_cons]
      simp
    · simp only [Int.toNat_natCast]
      rw [i2, List.flatMap_cons, List.length_append]; omega
/-- a quoted text that is printed is read back -/
theorem quo_back {s : List UInt8} {p : Nat} {r : List UInt8} (hs : txtOk s = true) (h : l.drop p = quoT s ++ r) : qRead l (p : Int) = (s, ((p + (quoT s).length : Nat) : Int), 0) := by
  obtain ⟨h1, h2⟩ := txtOk_cpsOf hs
  unfold quoT at h ⊢
  simp only [List.cons_append, List.append_assoc] at h
  have g0 : l[p]? = some 34 := dr_get0 h
  have hp := dr_lt h (by simp)
  have h3 := dr_one h
  obtain ⟨i1, i2⟩ := signs_back (cpsOf s) (p + 1) r h1 h3
  have h4 := dr_dr h3
  have g1 : l[p + 1 + ((cpsOf s).flatMap qSignT).length]? = some 34 := dr_get0 h4
  rw [qRead_in hp, if_neg (by rw [g0]; simp), i1, i2, if_pos g1, ← h2]
  simp only [List.length_cons, List.length_append, List.cons_append, Prod.mk.injEq, true_and, and_true, List.length_nil]
  omega

-- numerals
theorem natF_dig : ∀ (f n : Nat), ∀ c ∈ natF f n, isDig c = true
  | 0, _, c, h => by cases h
  | f + 1, n, c, h => by
    unfold natF at h
    have key : ∀ k, k < 10 → isDig (UInt8.ofNat (48 + k)) = true := by decide
    split at h
    · rename_i h1
      rw [List.mem_singleton] at h; subst h; exact key n h1
    · rcases List.mem_append.1 h with h | h
      · exact natF_dig f _ c h
      · rw [List.mem_singleton] at h; subst h; exact key _ (by omega)
theorem natD_dig (n : Nat) : ∀ c ∈ natD n, isDig c = true := natF_dig _ _
theorem natF_num : ∀ (f n : Nat), n < f → digNum (natF f n) = n
  | 0, _, h => by omega
  | f + 1, n, h => by
    unfold natF
    have key : ∀ k, k < 10 → dval (UInt8.ofNat (48 + k)) = k := by decide
    split
    · rename_i h1
      show 10 * 0 + dval _ = n
      rw [key n h1]; omega
    · rw [dNum_snoc, natF_num f _ (by omega), key _ (by omega)]; omega
theorem natD_num (n : Nat) : digNum (natD n) = n := natF_num _ _ (by omega)
theorem natF_ne : ∀ (f n : Nat), n < f → natF f n ≠ []
  | 0, _, h => by omega
  | f + 1, n, h => by unfold natF; split <;> simp
theorem natD_ne (n : Nat) : natD n ≠ [] := natF_ne _ _ (by omega)
theorem natF_head : ∀ (f n : Nat), n < f → 0 < n → (natF f n).headD 0 ≠ 48
  | 0, _, h, _ => by omega
  | f + 1, n, h, h0 => by
    unfold natF
    have key : ∀ k, k < 10 → 0 < k → UInt8.ofNat (48 + k) ≠ 48 := by decide
    split
    · rename_i h1
      exact key n h1 h0
    · have hne := natF_ne f (n / 10) (by omega)
      have := natF_head f (n / 10) (by omega) (by omega)
      cases hx : natF f (n / 10) with
      | nil => exact absurd hx hne
      | cons x r => rw [hx] at this; exact this
/-- what stops a numeral -/
def stopN (r : List UInt8) : Prop := ∀ c, r.head? = some c → isDig c = false ∧ c ≠ 46 ∧ c ≠ 101 ∧ c ≠ 69
theorem tw_stop : ∀ {ds r : List UInt8}, (∀ c ∈ ds, isDig c = true) → (∀ c, r.head? = some c → isDig c = false) → (ds ++ r).takeWhile isDig = ds
  | [], [], _, _ => rfl
  | [], c :: r, _, h => by
    rw [List.nil_append, List.takeWhile_cons, h c rfl]; rfl
  | d :: ds, r, h, h' => by
    rw [List.cons_append, List.takeWhile_cons, h d List.mem_cons_self, if_pos rfl, tw_stop (fun c hc => h c (List.mem_cons_of_mem _ hc)) h']
def seesO (c : Option UInt8) (x : List UInt8) : Bool := match c with | some b => x.contains b | none => false
theorem sees_at {p : Nat} {x : List UInt8} (c : Option UInt8) (h : l[p]? = c) : seesB l p x = seesO c x := by
  unfold seesB seesO; rw [h]; cases c <;> rfl
theorem stop_sees {p : Nat} {r : List UInt8} (h : l.drop p = r) (hr : stopN r) : seesB l p [46] = false ∧ seesB l p [101, 69] = false := by
  have e : l[p]? = r.head? := by
    have := dr_get h 0
    rw [Nat.add_zero] at this
    rw [this]; cases r <;> rfl
  cases hh : r.head? with
  | none => rw [hh] at e; exact ⟨by rw [sees_at _ e]; rfl, by rw [sees_at _ e]; rfl⟩
  | some c =>
    obtain ⟨_, h2, h3, h4⟩ := hr c hh
    rw [hh] at e
    refine ⟨?_, ?_⟩
    · rw [sees_at _ e]; unfold seesO; simpa using h2
    · rw [sees_at _ e]; unfold seesO; simp; exact ⟨h3, h4⟩
theorem digs_back {p : Nat} {ds r : List UInt8} (h : l.drop p = ds ++ r) (hd : ∀ c ∈ ds, isDig c = true) (hr : stopN r) : digs l p = ds := by
  unfold digs; rw [h]; exact tw_stop hd (fun c hc => (hr c hc).1)
/-- the digits of a number, read -/
theorem whole_back {p n : Nat} {r : List UInt8} {st : NSt} (h : l.drop p = natD n ++ r) (hr : stopN r) (hp : st.pos = p) (hs : st.over = false ∧ st.size = 0 ∧ st.part = false) (hn : n ≤ 18446744073709551615) :
    ∃ s2, wholeS l st = (s2, none) ∧ s2.pos = p + (natD n).length ∧ s2.over = false ∧ s2.size = n ∧ s2.part = false ∧ s2.minus = st.minus := by
  have hd := natD_dig n
  have hne := natD_ne n
  have hh : l[p]? = (natD n).head? := by
    have := dr_get h 0
    rw [Nat.add_zero] at this
    rw [this]
    cases hx : natD n with
    | nil => exact absurd hx hne
    | cons x u => rfl
  unfold wholeS
  rw [hp]
  by_cases h0 : n = 0
  · subst h0
    have hz : seesB l p [48] = true := by rw [sees_at _ hh]; rfl
    rw [if_pos hz]
    exact ⟨_, rfl, rfl, hs.1, hs.2.1, hs.2.2, rfl⟩
  · have hz : seesB l p [48] = false := by
      have h1 := natF_head (n + 1) n (by omega) (by omega)
      change (natD n).headD 0 ≠ 48 at h1
      rw [sees_at _ hh]
      cases hx : natD n with
      | nil => exact absurd hx hne
      | cons x u =>
        rw [hx] at h1
        have h1 : x ≠ 48 := h1
        show [48].contains x = false
        simpa using h1
    rw [if_neg (by rw [hz]; decide)]
    have hdg := digs_back h hd hr
    unfold rowS
    rw [hp, hdg, if_neg hne]
    have hk := grow_spec (natD n) [] st hd (.inr ⟨hs.1, by rw [hs.2.1]; rfl, by decide⟩)
    rw [List.nil_append, natD_num] at hk
    refine ⟨_, rfl, ?_, ?_, ?_, ?_, ?_⟩
    · show st.pos + _ = _; rw [hp]
    · show (growAll (natD n) st).over = false
      rcases hk with ⟨_, hk⟩ | ⟨hk, _⟩
      · omega
      · exact hk
    · show (growAll (natD n) st).size = n
      rcases hk with ⟨_, hk⟩ | ⟨_, hk, _⟩
      · omega
      · exact hk
    · show (growAll (natD n) st).part = false
      rw [(growAll_part _ _).1]; exact hs.2.2
    · show (growAll (natD n) st).minus = st.minus
      exact (growAll_part _ _).2
theorem numT_len (n : Int) : 1 ≤ (numT n).length := by
  unfold numT
  have := List.length_pos_iff.2 (natD_ne n.natAbs)
  split <;> simp <;> omega
/-- a numeral that is printed is read back -/
theorem num_back {n : Int} {p : Nat} {r : List UInt8} (hn : -9223372036854775808 ≤ n ∧ n ≤ 9223372036854775807) (h : l.drop p = numT n ++ r) (hr : stopN r) : numRead l (p : Int) = (n, ((p + (numT n).length : Nat) : Int), 0) := by
  have hp : p < l.length := dr_lt h (by intro e; have h := congrArg List.length e; rw [List.length_append] at h; have := numT_len n; simp only [List.length_nil] at h; omega)
  unfold numT at h ⊢
  by_cases h0 : n < 0
  · rw [if_pos h0] at h ⊢
    rw [List.cons_append] at h
    have g0 : l[p]? = some 45 := dr_get0 h
    have hm : seesB l p [45] = true := by rw [sees_at _ g0]; rfl
    have hsg : (sgn l p).pos = p + 1 ∧ (sgn l p).minus = true ∧ (sgn l p).over = false ∧ (sgn l p).size = 0 ∧ (sgn l p).part = false := by
      unfold sgn takeS numStart
      simp only
      rw [hm]
      exact ⟨rfl, rfl, rfl, rfl, rfl⟩
    obtain ⟨s2, e1, e2, e3, e4, e5, e6⟩ := whole_back (dr_one h) hr hsg.1 hsg.2.2 (by omega)
    have hst := stop_sees (l := l) (p := s2.pos) (r := r) (by rw [e2]; exact dr_dr (dr_one h)) hr
    rw [num_of (by omega) e1 hst.1 hst.2]
    unfold numEnd
    rw [e5, e3, e6, hsg.2.1, e4, e2]
    have hb : decide (numBig true < n.natAbs) = false := by rw [decide_eq_false_iff_not]; unfold numBig; simp; omega
    rw [hb]
    simp
    omega
  · rw [if_neg h0] at h ⊢
    have hh : l[p]? = (natD n.natAbs).head? := by
      have := dr_get h 0
      rw [Nat.add_zero] at this
      rw [this]
      cases hx : natD n.natAbs with
      | nil => exact absurd hx (natD_ne _)
      | cons x u => rfl
    have hm : seesB l p [45] = false := by
      rw [sees_at _ hh]
      cases hx : natD n.natAbs with
      | nil => rfl
      | cons x u =>
        have := natD_dig n.natAbs x (by rw [hx]; exact List.mem_cons_self)
        show [45].contains x = false
        have h1 : 48 ≤ x.toNat ∧ x.toNat ≤ 57 := of_decide_eq_true this
        simp only [List.contains_cons, List.contains_nil, Bool.or_false, beq_eq_false_iff_ne, ne_eq]
        intro e; subst e; simp at h1
    have hsg : (sgn l p).pos = p ∧ (sgn l p).minus = false ∧ (sgn l p).over = false ∧ (sgn l p).size = 0 ∧ (sgn l p).part = false := by
      unfold sgn takeS numStart
      simp only
      rw [hm]
      exact ⟨rfl, rfl, rfl, rfl, rfl⟩
    obtain ⟨s2, e1, e2, e3, e4, e5, e6⟩ := whole_back h hr hsg.1 hsg.2.2 (by omega)
    have hst := stop_sees (l := l) (p := s2.pos) (r := r) (by rw [e2]; exact dr_dr h) hr
    rw [num_of (by omega) e1 hst.1 hst.2]
    unfold numEnd
    rw [e5, e3, e6, hsg.2.1, e4, e2]
    have hb : decide (numBig false < n.natAbs) = false := by rw [decide_eq_false_iff_not]; unfold numBig; simp; omega
    rw [hb]
    simp
    omega
end Go.Proofs.YtoejdhabpajhlaaGreatDoor
