/- The walk of quote.Read. -/
import Derived.Test.YtalhoacancbldaaDoorQuote6
import Derived.Laws.BytesString
import Derived.Lib.BufferRead
namespace Go.Proofs.YtalhoacancbldaaDoor
set_option linter.unusedVariables false
set_option linter.unusedSimpArgs false
open Go.RowKit Go.Shelf
attribute [local go_sem] run_index_arr run_part_agg run_part_one run_field_agg Oper.semAt_some

/-- 'string(b)' -/
theorem BS.conv {w : World} {v : Value} {l : List UInt8} (h : BS w v l) : (convert 36 9 v).run Tryd.prog w = .ok (.string ⟨l.toArray⟩) w := by
  obtain ⟨A, cap, rfl, hc, hr⟩ := h
  cases A with
  | none =>
    have hl : l = [] := by
      cases l with
      | nil => rfl
      | cons c r => obtain ⟨b, o, e, _⟩ := hr (by simp [byteV]); cases e
    subst hl
    exact Lib.run_convert_nil_bytes w _ _ 5 cap (by simp [go_sem]) (by simp [go_sem]) (by simp [go_sem])
  | some a =>
    refine Go.run_convert_bytes_back w _ _ 5 a cap l (by simp [go_sem]) (by simp [go_sem]) (by simp [go_sem]) ?_
    intro j hj
    obtain ⟨b, o, e, _, hx⟩ := hr (by intro e; have := byteV_len l; rw [e] at this; simp at this; omega)
    cases e
    have := hx j (by rw [byteV_len]; exact hj)
    have e2 : (⟨b, o, none⟩ : Addr).add j = ⟨b, o + j, none⟩ := by simp [Addr.add]
    rw [e2]
    simpa [byteV] using this

def qBytes (xs : List (Int × Int)) : List UInt8 := xs.flatMap fun x => cpBytes x.1.toNat
/-- the place behind some signs that begin at a place -/
def qEnd (a : Nat) (xs : List (Int × Int)) : Nat := match xs.getLast? with | some x => x.2.toNat | none => a
theorem qEnd_app (a : Nat) (xs : List (Int × Int)) (x : Int × Int) : qEnd a (xs ++ [x]) = x.2.toNat := by simp [qEnd]
theorem qBytes_app (xs : List (Int × Int)) (x : Int × Int) : qBytes (xs ++ [x]) = qBytes xs ++ cpBytes x.1.toNat := by simp [qBytes]
theorem cpBytes_length {p : Nat} (h : cpLen p ≠ 0) : (cpBytes p).length = cpLen p := by
  have h1 := (cpLen_iff p (cpLen p)).1 rfl
  unfold cpBytes
  split
  · simp; omega
  · split
    · simp; omega
    · split
      · simp; omega
      · simp; omega
/-- a sign's bytes are no more than those that it is written with -/
theorem qs_len {l : List UInt8} {a : Nat} {c n : Int} (h : qsS l a = (c, n, 0)) (ha : a < l.length) : a + (cpBytes c.toNat).length ≤ n.toNat := by
  unfold qsS at h
  rw [List.getElem?_eq_getElem ha] at h
  simp only at h
  split at h
  · unfold escS at h
    cases hu : unitO l a with
    | some u =>
      rw [hu] at h
      simp only at h
      split at h
      · simp only [Prod.mk.injEq] at h
        have := cpBytes_le4 c.toNat
        omega
      · split at h
        · cases hv : unitO l (a + 6) with
          | none => rw [hv] at h; simp at h
          | some v =>
            rw [hv] at h
            simp only at h
            split at h
            · simp only [Prod.mk.injEq] at h
              have := cpBytes_le4 c.toNat
              omega
            · simp at h
        · simp at h
    | none =>
      rw [hu] at h
      simp only at h
      cases hc : l[a + 1]? with
      | none => rw [hc] at h; simp at h
      | some d =>
        rw [hc] at h
        simp only at h
        cases hx : letterS d.toNat with
        | none => rw [hx] at h; simp at h
        | some x =>
          rw [hx] at h
          simp only [Prod.mk.injEq] at h
          have h1 := letterS_lt hx
          have h2 : c.toNat = x := by omega
          rw [h2]
          unfold cpBytes
          rw [if_pos h1]
          simp; omega
  · split at h
    · simp at h
    · unfold nextR at h
      rw [if_neg (by omega), if_neg (by omega), Int.toNat_natCast] at h
      split at h
      · simp at h
      · rename_i hne
        simp only [Prod.mk.injEq] at h
        have h2 : c.toNat = (cpBegin (l.drop a)).1 := by omega
        rw [h2]
        have key : ∀ n, cpOk (l.drop a) n = true → (cpBytes (cpNum (l.drop a) n)).length ≤ n := fun n hn => by
          rw [((cpOk_iff _ n).1 hn).2.2]; simp; omega
        have : (cpBytes (cpBegin (l.drop a)).1).length ≤ (cpBegin (l.drop a)).2 := by
          unfold cpBegin at hne ⊢
          split
          · exact key _ ‹_›
          · split
            · exact key _ ‹_›
            · split
              · exact key _ ‹_›
              · split
                · exact key _ ‹_›
                · simp_all
        omega
/-- what holds of the first signs -/
theorem signs_pre {l : List UInt8} : ∀ (k a : Nat) (pre : List (Int × Int)), l.length - a ≤ k → pre <+: signsL l a → a ≤ l.length →
    (∀ x ∈ pre, ∃ p m : Nat, x = ((p : Int), (m : Int)) ∧ cpLen p ≠ 0) ∧ a + (qBytes pre).length ≤ qEnd a pre ∧ qEnd a pre ≤ l.length ∧ signsL l a = pre ++ signsL l (qEnd a pre)
  | k, a, [], _, _, ha => ⟨by simp, by simp [qBytes, qEnd], by simpa [qEnd] using ha, by simp [qEnd]⟩
  | k, a, x :: pre, hk, hp, ha => by
    by_cases hc : a < l.length ∧ (qsS l a).2.2 = 0
    · obtain ⟨p, m, h1, h2, h3, h4, h5⟩ := qs_ok (c := (qsS l a).1) (n := (qsS l a).2.1) (by rw [← hc.2]) hc.1
      have hq : qsS l a = ((p : Int), (m : Int), 0) := by rw [← h1, ← h2, ← hc.2]
      have hlen := qs_len hq hc.1
      rw [signsL_cons hq hc.1] at hp ⊢
      obtain ⟨rfl, hp'⟩ := List.cons_prefix_cons.1 hp
      match k, hk with
      | 0, hk => omega
      | k + 1, hk =>
        obtain ⟨g1, g2, g3, g4⟩ := signs_pre k m pre (by omega) hp' h4
        have he : qEnd a (((p : Int), (m : Int)) :: pre) = qEnd m pre := by
          unfold qEnd
          cases pre with
          | nil => simp
          | cons y r =>
            rw [List.getLast?_cons_cons]
            cases h : (y :: r).getLast? with
            | none => simp at h
            | some z => rfl
        rw [he]
        refine ⟨?_, ?_, g3, congrArg (_ :: ·) g4⟩
        · intro y hy
          rcases List.mem_cons.1 hy with rfl | hy
          · exact ⟨p, m, rfl, h5⟩
          · exact g1 y hy
        · simp only [qBytes, List.flatMap_cons, List.length_append, Int.toNat_natCast] at g2 hlen ⊢
          omega
    · rw [signsL_nil (fun h e => hc ⟨h, e⟩)] at hp
      simp at hp
end Go.Proofs.YtalhoacancbldaaDoor
