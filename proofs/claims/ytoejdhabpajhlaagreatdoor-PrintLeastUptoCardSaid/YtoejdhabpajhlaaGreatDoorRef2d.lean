import Derived.Test.YtoejdhabpajhlaaGreatDoorRef2
import Derived.Test.YtoejdhabpajhlaaGreatDoorQuote6
import Derived.Test.YtoejdhabpajhlaaGreatDoorBase
/- Plain: the program's sign of a quoted text is the reference's. -/
namespace Go.Proofs.YtoejdhabpajhlaaGreatDoor
set_option linter.unusedVariables false
set_option linter.unusedSimpArgs false
open Go.RowKit

theorem cpBegin_ascii {c : UInt8} {r : List UInt8} (h : c.toNat < 128) : cpBegin (c :: r) = (c.toNat, 1) := by
  rw [begin_1 ((ok1 c r).2 h)]
  simp [cpNum]
theorem cpBegin_high {c : UInt8} {r : List UInt8} (h : ¬ c.toNat < 128) (h2 : (cpBegin (c :: r)).2 ≠ 0) : 128 ≤ (cpBegin (c :: r)).1 := by
  have h1 : cpOk (c :: r) 1 = false := by rw [Bool.eq_false_iff]; intro e; exact h ((ok1 c r).1 e)
  have key : ∀ n, 2 ≤ n → cpOk (c :: r) n = true → 128 ≤ cpNum (c :: r) n := fun n hn hk => by
    obtain ⟨e1, e2, e3⟩ := (cpOk_iff _ _).1 hk
    rcases Nat.lt_or_ge (cpNum (c :: r) n) 128 with hlt | hge
    · exfalso
      have := congrArg List.length e3
      unfold cpBytes at this
      rw [if_pos hlt] at this
      rw [List.length_take, List.length_singleton] at this
      omega
    · exact hge
  unfold cpBegin at h2 ⊢
  rw [h1] at h2 ⊢
  simp only [Bool.false_eq_true, if_false] at h2 ⊢
  split
  · exact key 2 (by omega) ‹_›
  · split
    · exact key 3 (by omega) ‹_›
    · split
      · exact key 4 (by omega) ‹_›
      · simp_all
theorem tailB_of {l : List UInt8} {c : UInt8} {r : List UInt8} (h : l = c :: r) : tailB l = if c.toNat = 92 ∨ c.toNat < 32 ∨ c.toNat = 34 ∨ (cpBegin l).2 = 0 then (0, 0) else cpBegin l := by
  unfold tailB
  by_cases h8 : c.toNat < 128
  · have e : cpBegin l = (c.toNat, 1) := by rw [h]; exact cpBegin_ascii h8
    rw [e]
    simp only
    by_cases hc : c.toNat < 32 ∨ c.toNat = 34 ∨ c.toNat = 92
    · rw [if_pos (.inr hc), if_pos (by rcases hc with h | h | h; exact .inr (.inl h); exact .inr (.inr (.inl h)); exact .inl h)]
    · rw [if_neg (by rintro (h | h); omega; exact hc h), if_neg (by rintro (h | h | h | h); exact hc (.inr (.inr h)); exact hc (.inl h); exact hc (.inr (.inl h)); omega)]
  · by_cases h0 : (cpBegin l).2 = 0
    · rw [if_pos (.inl h0), if_pos (.inr (.inr (.inr h0)))]
    · have hb : 128 ≤ (cpBegin l).1 := by rw [h] at h0 ⊢; exact cpBegin_high h8 h0
      rw [if_neg (by rintro (h | h | h | h) <;> omega), if_neg (by rintro (h | h | h | h) <;> omega)]

/-- the sign that stands at a place, in the program's words and in the reference's -/
theorem b2_same {l : List UInt8} {p : Nat} {c : UInt8} (hc : l[p]? = some c) :
    ((qsS l p).2.2 = 0 ∧ qsS l p = (((rB2 (l.drop p)).1 : Int), ((p + (rB2 (l.drop p)).2 : Nat) : Int), 0) ∧ (rB2 (l.drop p)).2 ≠ 0) ∨
    ((rB2 (l.drop p)).2 = 0 ∧ (qsS l p).2.2 = (if 128 ≤ c.toNat then 110 else 7)) := by
  have hlt := (List.getElem?_eq_some_iff.1 hc).1
  have hd : l.drop p = c :: l.drop (p + 1) := by
    rw [List.drop_eq_getElem_cons hlt, (List.getElem?_eq_some_iff.1 hc).2]
  have hd0 : (l.drop p)[0]? = some c := by rw [List.getElem?_drop, Nat.add_zero]; exact hc
  have hd1 : (l.drop p)[1]? = l[p + 1]? := by rw [List.getElem?_drop]
  have hu0 : unitO (l.drop p) 0 = unitO l p := unitO_drop (by omega)
  have ht := tailB_of hd
  have hq : qsS l p = if c.toNat = 92 then escS l p else if c.toNat < 32 ∨ c.toNat = 34 then (0, 0, 7) else nextR l p := by rw [qsS, hc]
  rw [rB2_eq, hd0, hd1]
  by_cases h92 : c = 92
  · subst h92
    have hT : tailB (l.drop p) = (0, 0) := by rw [ht, if_pos (.inl rfl)]
    have hE : (if 128 ≤ (92 : UInt8).toNat then (110 : Int) else 7) = 7 := by decide
    have hq2 : qsS l p = escS l p := by rw [hq]; exact if_pos rfl
    rw [if_pos rfl, hq2, hE]
    unfold escS
    cases hu : unitO l p with
    | some u =>
      have hn := unitO_lt hu
      have h117 : l[p + 1]? = some 117 := by
        unfold unitO at hu
        split at hu
        · cases hu
        · rename_i hh
          simp only [not_or, Classical.not_not] at hh
          exact hh.2.2
      have hln : l[p + 1]?.bind (fun c => letterS c.toNat) = none := by rw [h117]; rfl
      rw [hln]
      simp only
      have hub : unitB (l.drop p) = if isCp (u : Int) then (u, 6) else if 55296 ≤ u ∧ u ≤ 56319 then
          match unitO l (p + 6) with
          | some v => if 56320 ≤ v ∧ v ≤ 57343 then (65536 + 1024 * (u - 55296) + (v - 56320), 12) else (0, 0)
          | none => (0, 0)
        else (0, 0) := by
        unfold unitB
        rw [hu0, hu, hT]
        have h6 : unitO (l.drop p) 6 = unitO l (p + 6) := by
          have a1 := unitO_drop (l := l) (a := p + 6) (by omega)
          have a2 := unitO_drop (l := l.drop p) (a := 6) (by rw [List.length_drop]; omega)
          rw [List.drop_drop] at a2
          rw [← a2, a1]
        rw [h6]
        rfl
      rw [hub]
      have hcs : 0 < cpSize (u : Int) ↔ isCp (u : Int) = true := by
        rw [isCp_iff, cpSize_eq]
        repeat' split
        all_goals omega
      by_cases hs : 0 < cpSize (u : Int)
      · rw [if_pos hs, if_pos (hcs.1 hs)]
        exact .inl ⟨rfl, by simp, by simp⟩
      · have hncp : ¬ isCp (u : Int) = true := fun e => hs (hcs.2 e)
        have hrange : 55296 ≤ u ∧ u ≤ 57343 := by
          have := hncp
          rw [isCp_iff] at this
          omega
        rw [if_neg hs, if_neg hncp]
        by_cases hh : u < 56320
        · rw [if_pos hh, if_pos (show 55296 ≤ u ∧ u ≤ 56319 by omega)]
          cases hv : unitO l (p + 6) with
          | none => exact .inr ⟨rfl, rfl⟩
          | some v =>
            simp only
            by_cases hv2 : 56320 ≤ v ∧ v ≤ 57343
            · rw [if_pos hv2, if_pos hv2]
              exact .inl ⟨rfl, by simp only [Prod.mk.injEq, and_true]; omega, by simp⟩
            · rw [if_neg hv2, if_neg hv2]
              exact .inr ⟨rfl, rfl⟩
        · rw [if_neg hh, if_neg (show ¬ (55296 ≤ u ∧ u ≤ 56319) by omega)]
          exact .inr ⟨rfl, rfl⟩
    | none =>
      have hub : unitB (l.drop p) = (0, 0) := by unfold unitB; rw [hu0, hu, hT]
      rw [hub]
      simp only
      cases h1 : l[p + 1]? with
      | none => exact .inr ⟨rfl, rfl⟩
      | some d =>
        simp only [Option.bind_some]
        cases hx : letterS d.toNat with
        | none => exact .inr ⟨rfl, rfl⟩
        | some x => exact .inl ⟨rfl, by simp, by simp⟩
  · have hn92 : c.toNat ≠ 92 := fun e => h92 (UInt8.toNat_inj.1 (by simpa using e))
    have huN : unitO l p = none := by unfold unitO; rw [if_pos (.inr (.inl (by rw [hc]; simpa using h92)))]
    have hub : unitB (l.drop p) = tailB (l.drop p) := by unfold unitB; rw [hu0, huN]
    rw [if_neg (by simpa using h92), hub, hq, if_neg hn92, ht]
    simp only
    by_cases hlow : c.toNat < 32 ∨ c.toNat = 34
    · rw [if_pos hlow, if_pos (by rcases hlow with h | h; exact .inr (.inl h); exact .inr (.inr (.inl h)))]
      exact .inr ⟨rfl, by rw [if_neg (by omega)]⟩
    · rw [if_neg hlow]
      have hnr : nextR l (p : Int) = if (cpBegin (l.drop p)).2 = 0 then (0, 0, 110) else (((cpBegin (l.drop p)).1 : Int), (p : Int) + (cpBegin (l.drop p)).2, 0) := by
        unfold nextR
        rw [if_neg (by omega), if_neg (by omega), Int.toNat_natCast]
      rw [hnr]
      by_cases h0 : (cpBegin (l.drop p)).2 = 0
      · have h128 : 128 ≤ c.toNat := by
          rcases Nat.lt_or_ge c.toNat 128 with h | h
          · rw [hd, cpBegin_ascii h] at h0; simp at h0
          · exact h
        rw [if_pos h0, if_pos (.inr (.inr (.inr h0)))]
        exact .inr ⟨rfl, by rw [if_pos h128]⟩
      · rw [if_neg h0, if_neg (by rintro (h | h | h | h); exact hn92 h; exact hlow (.inl h); exact hlow (.inr h); exact h0 h)]
        exact .inl ⟨rfl, by simp, h0⟩
end Go.Proofs.YtoejdhabpajhlaaGreatDoor

/- The walk of the reference davenportref02: Read. -/
namespace Go.Proofs.YtoejdhabpajhlaaGreatDoor
set_option linter.unusedVariables false
set_option linter.unusedSimpArgs false
open Go.RowKit
attribute [local go_sem] run_index_arr run_part_agg run_part_one run_field_agg

theorem infoInt : (Tryz.prog.info? 3).map (fun i => (i.zero, i.size, i.bytes)) = some (some (.int .i64 0), 1, 8) := by kernel_rfl
def intV (l : List Int) : List Value := l.map (Value.int .i64)
/-- a slice value reads as a row of ints -/
def IS (w : World) (v : Value) (l : List Int) : Prop := ∃ A cap, v = .slice A l.length cap ∧ l.length ≤ cap ∧ Rd w A (intV l)
theorem IS.of_own {w : World} {base : Nat} {e : TypeId} {v : Value} {l : List Int} {n : Nat} (hn : n = l.length) (h : w.ownsRow base e 1 v n (intV l)) : IS w v l := by
  subst hn
  obtain ⟨A, cap, rfl, hc, hr⟩ := Rd.of_own h
  exact ⟨A, cap, rfl, hc, hr⟩
theorem rd_len {w : World} {A : Option Addr} {l : List UInt8} (h : Rd w A (byteV l)) : A = none → l.length = 0 := by
  intro e
  rcases Nat.eq_zero_or_pos l.length with h0 | h0
  · exact h0
  · obtain ⟨b, o, e2, _⟩ := h.some_ h0
    rw [e] at e2; cases e2
theorem gb_of_below {w w' : World} (h : Below w.heap.size w w') : w.grownBy w' none := ⟨h.os, h.tape, h.output, h.size, fun k hk _ => h.block k hk⟩
theorem own_below {w w' : World} {base : Nat} {e : TypeId} {size n : Nat} {v : Value} {xs : List Value} (h : w.ownsRow base e size v n xs) (hb : Below w.heap.size w w') : w'.ownsRow base e size v n xs :=
  h.kept (gb_of_below hb) (by cases v.ownBlock <;> simp)

def RReadPost (l : List UInt8) (a : Nat) (w : World) (e : Ending) (w' : World) : Prop :=
  (∃ v, e = .returned (.tuple #[v, .int .i64 (qRead l a).2.1, .int .i64 (qRead l a).2.2]) ∧ ((qRead l a).2.2 = 0 → w'.ownsRow w.heap.size 3 1 v ((signsL l (a + 1)).map Prod.fst).length (intV ((signsL l (a + 1)).map Prod.fst)))) ∧ Below w.heap.size w w'
theorem qRead_at {l : List UInt8} {a p : Nat} {pre : List (Int × Int)} (ha : l[a]? = some 34) (hs : signsL l (a + 1) = pre) (hp : qEnd (a + 1) pre = p) :
    qRead l a = if l[p]? = some 34 then (qBytes pre, (p : Int) + 1, 0) else ([], (p : Int), (qSign l (p : Nat)).2.2) := by
  have hlt := (List.getElem?_eq_some_iff.1 ha).1
  unfold qRead
  rw [if_neg (by omega), if_neg (by omega), Int.toNat_natCast, if_neg (by rw [ha]; simp), hs, hp]

/-- the text of code points -/
def textB (xs : List (Int × Int)) : List UInt8 := qBytes xs
theorem intV_get {xs : List Int} {i : Nat} {x : Int} (h : xs[i]? = some x) : (intV xs)[i]? = some (.int .i64 x) := by unfold intV; rw [List.getElem?_map, h]; rfl
end Go.Proofs.YtoejdhabpajhlaaGreatDoor
