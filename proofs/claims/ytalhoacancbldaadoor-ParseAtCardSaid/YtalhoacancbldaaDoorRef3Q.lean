/- Plain: how a numeral is gone through, said as the reference does. -/
import Derived.Test.YtalhoacancbldaaDoorRef3
import Derived.Test.YtalhoacancbldaaDoorNumP
namespace Go.Proofs.YtalhoacancbldaaDoor
set_option linter.unusedVariables false
set_option linter.unusedSimpArgs false
open Go.RowKit

theorem grow_spec : ∀ (ds pre : List UInt8) (s : NSt), (∀ c ∈ ds, isDig c = true) → ((s.over = true ∧ 18446744073709551615 < digNum pre) ∨ (s.over = false ∧ s.size = digNum pre ∧ digNum pre ≤ 18446744073709551615)) →
    (((growAll ds s).over = true ∧ 18446744073709551615 < digNum (pre ++ ds)) ∨ ((growAll ds s).over = false ∧ (growAll ds s).size = digNum (pre ++ ds) ∧ digNum (pre ++ ds) ≤ 18446744073709551615))
  | [], pre, s, _, h => by simpa [growAll] using h
  | c :: ds, pre, s, hd, h => by
    have hc : 48 ≤ c.toNat ∧ c.toNat ≤ 57 := of_decide_eq_true (hd c List.mem_cons_self)
    have ih := grow_spec ds (pre ++ [c]) (growS (dval c) s) (fun x hx => hd x (List.mem_cons_of_mem _ hx))
    rw [List.append_assoc, List.singleton_append] at ih
    refine ih ?_
    rw [digNum_snoc]
    have hv : dval c ≤ 9 := by unfold dval; omega
    unfold growS
    simp only
    rcases h with ⟨h1, h2⟩ | ⟨h1, h2, h3⟩
    · left
      rw [h1]
      exact ⟨rfl, by omega⟩
    · rw [h1, h2]
      by_cases ho : (18446744073709551615 - dval c) / 10 < digNum pre
      · left
        rw [decide_eq_true ho]
        exact ⟨rfl, by omega⟩
      · right
        rw [decide_eq_false ho]
        refine ⟨rfl, Nat.mod_eq_of_lt (by omega), by omega⟩
theorem tw_all {f : UInt8 → Bool} : ∀ {l : List UInt8} {c : UInt8}, c ∈ l.takeWhile f → f c = true
  | [], c, h => by cases h
  | x :: r, c, h => by
    rw [List.takeWhile_cons] at h
    split at h
    · rename_i hx
      rcases List.mem_cons.1 h with rfl | h
      · exact hx
      · exact tw_all h
    · cases h
theorem digs_all (l : List UInt8) (p : Nat) : ∀ c ∈ digs l p, isDig c = true := fun c hc => tw_all hc
theorem digs_take (l : List UInt8) (p : Nat) : (l.drop p).take (digs l p).length = digs l p := by
  unfold digs
  exact (List.prefix_iff_eq_take.1 (List.takeWhile_prefix isDig)).symm
theorem u8_dig (c : UInt8) : [48, 49, 50, 51, 52, 53, 54, 55, 56, 57].contains c = isDig c := by
  have key : (List.range 256).all (fun n => ([48, 49, 50, 51, 52, 53, 54, 55, 56, 57] : List UInt8).contains (UInt8.ofNat n) == isDig (UInt8.ofNat n)) = true := by decide +kernel
  have := List.all_eq_true.1 key c.toNat (List.mem_range.2 c.toNat_lt)
  simpa using this
theorem sees_none {l : List UInt8} {p : Nat} {c : UInt8} (h : l[p]? = some c) (s : List UInt8) : seesB l p s = s.contains c := by unfold seesB; rw [h]
theorem growAll_part (ds : List UInt8) (s : NSt) : (growAll ds s).part = s.part ∧ (growAll ds s).minus = s.minus := ⟨(growAll_keep ds s).2.2, (growAll_keep ds s).2.1⟩

/-- the whole part: where it ends, and what has been gathered -/
theorem whole_spec {l : List UInt8} {p : Nat} {c : UInt8} (h : l[p]? = some c) (hd : isDig c = true) : ∃ st : NSt, wholeS l (numStart p) = (st, none) ∧ st.pos = (if seesB l p [48] then p + 1 else digEnd l p) ∧ st.part = false ∧ st.minus = false ∧
    ((st.over = true ∧ 18446744073709551615 < digNum ((l.drop p).take (st.pos - p))) ∨ (st.over = false ∧ st.size = digNum ((l.drop p).take (st.pos - p)) ∧ digNum ((l.drop p).take (st.pos - p)) ≤ 18446744073709551615)) := by
  have hc : 48 ≤ c.toNat ∧ c.toNat ≤ 57 := of_decide_eq_true hd
  have hlt := (List.getElem?_eq_some_iff.1 h).1
  unfold wholeS
  have hpos : (numStart p).pos = p := rfl
  rw [hpos]
  by_cases hz : seesB l p [48] = true
  · rw [if_pos hz, if_pos hz]
    refine ⟨_, rfl, rfl, rfl, rfl, .inr ⟨rfl, ?_, ?_⟩⟩
    · have hc0 : c = 48 := by rw [sees_none h] at hz; simpa using hz
      show 0 = _
      rw [show p + 1 - p = 1 from by omega, List.drop_eq_getElem_cons hlt]
      have : l[p] = c := (List.getElem?_eq_some_iff.1 h).2
      rw [this, hc0]; rfl
    · have hc0 : c = 48 := by rw [sees_none h] at hz; simpa using hz
      show digNum ((l.drop p).take (p + 1 - p)) ≤ _
      rw [show p + 1 - p = 1 from by omega, List.drop_eq_getElem_cons hlt]
      have : l[p] = c := (List.getElem?_eq_some_iff.1 h).2
      rw [this, hc0]; simp [digNum, dval]
  · rw [if_neg hz, if_neg hz]
    unfold rowS
    rw [hpos]
    have hne : digs l p ≠ [] := by
      have hs : seesB l p [48, 49, 50, 51, 52, 53, 54, 55, 56, 57] = true := by
        rw [sees_none h]
        have := u8_dig c
        rw [this]; exact hd
      obtain ⟨c', _, _, _, e⟩ := digs_cons hs
      rw [e]; simp
    rw [if_neg hne]
    refine ⟨_, rfl, rfl, (growAll_part _ _).1, (growAll_part _ _).2, ?_⟩
    have hk := grow_spec (digs l p) [] (numStart p) (digs_all l p) (.inr ⟨rfl, rfl, by decide⟩)
    show ((growAll (digs l p) (numStart p)).over = true ∧ _ < digNum ((l.drop p).take (p + (digs l p).length - p))) ∨ ((growAll (digs l p) (numStart p)).over = false ∧ (growAll (digs l p) (numStart p)).size = digNum ((l.drop p).take (p + (digs l p).length - p)) ∧ digNum ((l.drop p).take (p + (digs l p).length - p)) ≤ _)
    rw [show p + (digs l p).length - p = (digs l p).length from by omega, digs_take]
    simpa using hk

/-- the exponent -/
theorem exp_spec {l : List UInt8} {st : NSt} : ∃ st' q, expS l st = (st', q) ∧
    (match q with
     | some e => endExp l (!st.part) st.pos = (e, false, false)
     | none => endExp l (!st.part) st.pos = (st'.pos, !st'.part, true) ∧ (st'.part = false → st' = st)) ∧ (st.part = true → q = none → st'.part = true) := by
  unfold expS endExp
  by_cases he : seesB l st.pos [101, 69] = true
  · rw [if_pos he, if_pos he]
    unfold rowS takeS
    simp only
    by_cases hs : seesB l (st.pos + 1) [43, 45] = true
    · rw [if_pos hs, if_pos hs]
      simp only
      by_cases hd : digs l (st.pos + 1 + 1) = []
      · rw [if_pos hd, if_pos (by unfold digEnd; rw [hd]; rfl)]
        exact ⟨_, _, rfl, rfl, fun _ h => by cases h⟩
      · have hne : ¬ digEnd l (st.pos + 1 + 1) = st.pos + 1 + 1 := by
          unfold digEnd
          have := List.length_pos_iff.2 hd
          omega
        rw [if_neg hd, if_neg hne]
        refine ⟨_, _, rfl, ⟨?_, fun h => ?_⟩, fun _ _ => rfl⟩
        · rfl
        · cases h
    · rw [if_neg hs, if_neg hs]
      simp only
      by_cases hd : digs l (st.pos + 1) = []
      · rw [if_pos hd, if_pos (by unfold digEnd; rw [hd]; rfl)]
        exact ⟨_, _, rfl, rfl, fun _ h => by cases h⟩
      · have hne : ¬ digEnd l (st.pos + 1) = st.pos + 1 := by
          unfold digEnd
          have := List.length_pos_iff.2 hd
          omega
        rw [if_neg hd, if_neg hne]
        refine ⟨_, _, rfl, ⟨?_, fun h => ?_⟩, fun _ _ => rfl⟩
        · rfl
        · cases h
  · rw [if_neg he, if_neg he]
    exact ⟨_, _, rfl, ⟨rfl, fun _ => rfl⟩, fun h _ => h⟩
/-- fraction and exponent -/
theorem frac_spec {l : List UInt8} {st : NSt} (hp : st.part = false) : ∃ st' q, runK l [2, 3] st = (st', q) ∧
    (match q with
     | some e => endFrac l st.pos = (e, false, false)
     | none => endFrac l st.pos = (st'.pos, !st'.part, true) ∧ (st'.part = false → st' = st)) := by
  show ∃ st' q, (match fracS l st with | (st', none) => runK l [3] st' | r => r) = (st', q) ∧ _
  unfold fracS endFrac
  by_cases hf : seesB l st.pos [46] = true
  · rw [if_pos hf, if_pos hf]
    unfold rowS
    simp only
    by_cases hd : digs l (st.pos + 1) = []
    · rw [if_pos hd, if_pos (by unfold digEnd; rw [hd]; rfl)]
      exact ⟨_, _, rfl, rfl⟩
    · have hne : ¬ digEnd l (st.pos + 1) = st.pos + 1 := by
        unfold digEnd
        have := List.length_pos_iff.2 hd
        omega
      rw [if_neg hd, if_neg hne]
      obtain ⟨st2, hst2⟩ : ∃ s, digS false (digs l (st.pos + 1)) { st with pos := st.pos + 1, part := true } = s := ⟨_, rfl⟩
      have h1 : st2.pos = digEnd l (st.pos + 1) := by rw [← hst2]; rfl
      have h2 : st2.part = true := by rw [← hst2]; rfl
      obtain ⟨st', q, e1, e2, e3⟩ := exp_spec (l := l) (st := st2)
      rw [h1, h2] at e2
      refine ⟨st', q, ?_, ?_⟩
      · rw [hst2]
        show (match expS l st2 with | (st', none) => runK l [] st' | r => r) = _
        rw [e1]
        cases q <;> rfl
      · cases q with
        | some e => exact e2
        | none => exact ⟨e2.1, fun h => by rw [e3 h2 rfl] at h; cases h⟩
  · rw [if_neg hf, if_neg hf]
    obtain ⟨st', q, e1, e2, e3⟩ := exp_spec (l := l) (st := st)
    rw [hp] at e2
    refine ⟨st', q, ?_, ?_⟩
    · show (match expS l st with | (st', none) => runK l [] st' | r => r) = _
      rw [e1]
      cases q <;> rfl
    · cases q with
      | some e => exact e2
      | none => exact e2
def nrOf (q : Option Nat) (st : NSt) (p : Int) : Int × Int × Int := match q with | some e => (0, (e : Int), 7) | none => numEnd st p
theorem num_read_of {l : List UInt8} {p : Nat} {st' : NSt} {q : Option Nat} (hp : p ≤ l.length) (h : numRun l (numStart p) = (st', q)) : numRead l (p : Int) = nrOf q st' (p : Int) := by
  unfold numRead
  rw [if_neg (by omega), Int.toNat_natCast, h]
  cases q <;> rfl
end Go.Proofs.YtalhoacancbldaaDoor
